/- Names: the program's test and the reference's. Condition: at most 2^20 bytes. -/
import Derived.Test.YtnfihjebbhjgjaaDoorPSmx2
import Derived.Test.YtnfihjebbhjgjaaDoorPSmx6
import Derived.Test.YtnfihjebbhjgjaaDoorLib
import Derived.Test.YtnfihjebbhjgjaaDoorPSmx3
import Derived.Test.YtnfihjebbhjgjaaDoorPSmx4
import Derived.Test.YtnfihjebbhjgjaaDoorPSmx9
import Derived.Test.YtnfihjebbhjgjaaDoorParts
import Derived.Test.YtnfihjebbhjgjaaDoorPSmx8
import Derived.Test.YtnfihjebbhjgjaaDoorTabM
import Derived.Test.YtnfihjebbhjgjaaDoorPSmx5
import Derived.Test.YtnfihjebbhjgjaaDoorPSmx7
import Derived.Test.YtnfihjebbhjgjaaDoorPSmx0
import Derived.Lib.Bytealg
import Derived.Test.YtnfihjebbhjgjaaDoorPSmx14
import Derived.Test.YtnfihjebbhjgjaaDoorPSmx15
import Derived.Test.YtnfihjebbhjgjaaDoorPSmx12
import Derived.Test.YtnfihjebbhjgjaaDoorPSmx13
import Derived.Test.YtnfihjebbhjgjaaDoorPSmx17
import Derived.Test.YtnfihjebbhjgjaaDoorPSmx18
import Derived.Test.YtnfihjebbhjgjaaDoorOpNode
import Derived.Test.YtnfihjebbhjgjaaDoorPSmx16
section
/- Names: the program's test and the reference's. Condition: at most 2^20 bytes. -/
namespace Go.Proofs.YtnfihjebbhjgjaaDoor.Name
open Go Go.RowKit Go.Proofs.YtnfihjebbhjgjaaDoor.PSm Go.Proofs.YtnfihjebbhjgjaaDoorW.PrintWords Go.Proofs.YtnfihjebbhjgjaaDoor.Arith Go.Proofs.YtnfihjebbhjgjaaDoor.Lib
set_option linter.unusedSimpArgs false
set_option linter.unusedVariables false

def okc (c : Int) : Bool := decide (97 ≤ c ∧ c ≤ 122) || decide (65 ≤ c ∧ c ≤ 90) || decide (48 ≤ c ∧ c ≤ 57) || decide (c = 46) || decide (c = 95) || decide (c = 45)
theorem l01_eq (a b c : Int) : spec_l01In.f a b c = some (decide (b ≤ a ∧ a ≤ c)) := by
 unfold spec_l01In.f
 by_cases h : b ≤ a <;> by_cases h' : a ≤ c <;> simp [h, h']
theorem wi_eq (a b c : Int) : impl_within.f a b c = some (decide (b ≤ a ∧ a ≤ c)) := by
 unfold impl_within.f
 by_cases h : b ≤ a <;> by_cases h' : a ≤ c <;> simp [h, h']

theorem spec_round (s : ByteArray) (k i : Nat) (hi : i < s.size) (hs : s.size ≤ 1048576) : spec_NameOk.l0 (k + 1) s i = if okc (bt s i) = true then spec_NameOk.l0 k s ((i + 1 : Nat) : Int) else some false := by
 simp only [spec_NameOk.l0]
 rw [if_pos (by omega), if_pos (by omega), w64b, w64s i (by omega)]
 simp only [l01_eq, Option.bind_some, decide_eq_true_eq]
 generalize bt s i = c
 unfold okc
 by_cases h1 : 97 ≤ c ∧ c ≤ 122
 ·
  simp [h1]
 by_cases h2 : 65 ≤ c ∧ c ≤ 90
 ·
  simp [h1, h2]
 by_cases h3 : 48 ≤ c ∧ c ≤ 57
 ·
  simp [h1, h2, h3]
 by_cases h4 : c = 46
 ·
  simp [h4]
 by_cases h5 : c = 95
 ·
  simp [h5]
 by_cases h6 : c = 45
 ·
  simp [h6]
 ·
  simp [h1, h2, h3, h4, h5, h6]
theorem impl_round (s : ByteArray) (k i : Nat) (hi : i < s.size) (hs : s.size ≤ 1048576) : impl_NameOk.l0 (k + 1) s s.size i = if okc (bt s i) = true then impl_NameOk.l0 k s s.size ((i + 1 : Nat) : Int) else some false := by
 simp only [impl_NameOk.l0]
 rw [if_pos (by omega), if_pos (by omega), if_pos (by omega), w64s i (by omega)]
 generalize bt s i = c
 have hc : (okc c = true) ↔ (97 ≤ c ∧ c ≤ 122) ∨ (65 ≤ c ∧ c ≤ 90) ∨ (48 ≤ c ∧ c ≤ 57) ∨ c = 46 ∨ c = 95 ∨ c = 45 := by
  simp [okc, or_assoc]
 generalize impl_NameOk.l0 k s s.size ((i + 1 : Nat) : Int) = R
 by_cases ho : okc c = true
 ·
  rw [if_pos ho]
  have := hc.1 ho
  repeat' split
  all_goals first | rfl | (exfalso; omega)
 ·
  rw [if_neg ho]
  have h2 : ¬ ((97 ≤ c ∧ c ≤ 122) ∨ (65 ≤ c ∧ c ≤ 90) ∨ (48 ≤ c ∧ c ≤ 57) ∨ c = 46 ∨ c = 95 ∨ c = 45) := fun h => ho (hc.2 h)
  repeat' split
  all_goals first | rfl | (exfalso; omega)

def allok : List Int → Bool
 | [] => true
 | x :: l => okc x && allok l
theorem spec_loop (s : ByteArray) (hs : s.size ≤ 1048576) (d : Nat) : ∀ i : Nat, i + d = s.size → Ev (fun k => spec_NameOk.l0 k s i) (allok ((bytesOf s).drop i)) := by
 induction d with
 | zero =>
  intro i h
  refine ev_at fun k => ?_
  simp only [spec_NameOk.l0]
  rw [if_neg (by omega), drop_end s i (by omega)]; rfl
 | succ d ih =>
  intro i h
  rw [drop_bt s i (by omega)]
  cases ho : okc (bt s i) with
  | true =>
   refine Ev.step (f := fun k => spec_NameOk.l0 k s ((i + 1 : Nat) : Int)) (fun k => ?_) (by simpa [allok, ho] using ih (i + 1) (by omega))
   rw [spec_round s k i (by omega) hs, if_pos ho]
  | false =>
   refine ev_at fun k => ?_
   rw [spec_round s k i (by omega) hs, if_neg (by simp [ho])]
   simp [allok, ho]
def rest (s : ByteArray) : Bool := decide (1 ≤ (s.size : Int) ∧ (s.size : Int) ≤ 20) && !(s.toList == ([46] : List UInt8)) && !(s.toList == ([46, 46] : List UInt8))
theorem impl_loop (s : ByteArray) (hs : s.size ≤ 1048576) (d : Nat) : ∀ i : Nat, i + d = s.size → Ev (fun k => impl_NameOk.l0 k s s.size i) (allok ((bytesOf s).drop i) && rest s) := by
 induction d with
 | zero =>
  intro i h
  refine ev_at fun k => ?_
  simp only [impl_NameOk.l0]
  rw [if_neg (by omega), drop_end s i (by omega), wi_eq]
  simp only [Option.bind_some, allok, rest, Bool.true_and]
  by_cases h1 : 1 ≤ (s.size : Int) ∧ (s.size : Int) ≤ 20
  ·
   by_cases h2 : s.toList = ([46] : List UInt8)
   ·
    simp [h1, h2]
   ·
    by_cases h3 : s.toList = ([46, 46] : List UInt8)
    ·
     simp [h1, h2, h3]
    ·
     simp [h1, h2, h3, bne]
  ·
   simp [h1]
 | succ d ih =>
  intro i h
  rw [drop_bt s i (by omega)]
  cases ho : okc (bt s i) with
  | true =>
   refine Ev.step (f := fun k => impl_NameOk.l0 k s s.size ((i + 1 : Nat) : Int)) (fun k => ?_) (by simpa [allok, ho] using ih (i + 1) (by omega))
   rw [impl_round s k i (by omega) hs, if_pos ho]
  | false =>
   refine ev_at fun k => ?_
   rw [impl_round s k i (by omega) hs, if_neg (by simp [ho])]
   simp [allok, ho]

theorem spec_ev (s : ByteArray) (hs : s.size ≤ 1048576) : Ev (fun k => spec_NameOk.f k s) (allok (bytesOf s) && rest s) := by
 have hl := spec_loop s hs s.size 0 (by omega)
 simp only [List.drop_zero] at hl
 unfold spec_NameOk.f
 simp only [l01_eq, Option.bind_some, decide_eq_true_eq]
 by_cases h1 : 1 ≤ (s.size : Int) ∧ (s.size : Int) ≤ 20
 ·
  simp only [if_pos h1]
  by_cases h2 : s.toList = ([46] : List UInt8)
  ·
   simp only [if_pos h2]
   refine ev_at fun k => ?_
   simp only [spec_NameOk.j0]
   simp [rest, h2]
  ·
   simp only [if_neg h2]
   by_cases h3 : s.toList = ([46, 46] : List UInt8)
   ·
    refine ev_at fun k => ?_
    simp only [spec_NameOk.j0]
    simp [rest, h3]
   ·
    refine Ev.step (f := fun k => spec_NameOk.l0 k s 0) (fun k => ?_) ?_
    ·
     simp only [spec_NameOk.j0]
     rw [if_neg (by simp [h3])]
    ·
     have : rest s = true := by simp [rest, h1, h2, h3]
     rw [this, Bool.and_true]; exact hl
 ·
  simp only [if_neg h1]
  refine ev_at fun k => ?_
  simp only [spec_NameOk.j0]
  simp [rest, h1]
theorem impl_ev (s : ByteArray) (hs : s.size ≤ 1048576) : Ev (fun k => impl_NameOk.f k s) (allok (bytesOf s) && rest s) := by
 have hl := impl_loop s hs s.size 0 (by omega)
 simp only [List.drop_zero] at hl
 exact hl

def nameOk (s : ByteArray) : Bool := allok (bytesOf s) && rest s

end Go.Proofs.YtnfihjebbhjgjaaDoor.Name
end

section
/- Paths: the names of a path, in the program and in the reference. No condition. -/
namespace Go.Proofs.YtnfihjebbhjgjaaDoor.Paths
open Go Go.RowKit Go.Proofs.YtnfihjebbhjgjaaDoor.PSm Go.Proofs.YtnfihjebbhjgjaaDoorW.PrintWords Go.Proofs.YtnfihjebbhjgjaaDoorW.PrintMore Go.Proofs.YtnfihjebbhjgjaaDoor.Arith Go.Proofs.YtnfihjebbhjgjaaDoor.Lib Go.Proofs.YtnfihjebbhjgjaaDoor.Name Go.Proofs.YtnfihjebbhjgjaaDoor.Parts
set_option linter.unusedSimpArgs false
set_option linter.unusedVariables false

theorem bt_get (s : ByteArray) (i : Nat) (h : i < s.data.toList.length) : bt s (i : Int) = ((s.data.toList[i]).toNat : Int) := by
 have h' : i < s.size := by rw [size_eq]; exact h
 rw [← rd_bytesOf, rd_lt _ _ (by rw [bytesOf_length]; exact h')]
 simp [bytesOf]
theorem toNat_47 (b : UInt8) : ((b.toNat : Int) = 47) ↔ b = 47 := by
 constructor
 ·
  intro h
  apply UInt8.toNat_inj.1
  have : b.toNat = 47 := by omega
  rw [this]; rfl
 ·
  rintro rfl; rfl
theorem extract_ofL (s : ByteArray) (a b : Nat) : s.extract a b = ofL ((s.data.toList.take b).drop a) := by
 apply Parts.ext
 rw [ofL_data, ByteArray.data_extract, Array.toList_extract, List.extract_eq_take_drop, List.drop_take]
theorem names_loop (s : ByteArray) (hs : s.size ≤ 1048576) (d : Nat) : ∀ (i f : Nat) (acc : List ByteArray), i + d = s.size → f ≤ i → acc.length ≤ i → (∀ b ∈ (s.data.toList.drop f).take (i - f), b ≠ 47) →
 Ev (fun k => spec_l02Names.l0 k s acc f i) (acc ++ (parts (s.data.toList.drop f)).map ofL) := by
 have hL := size_eq s
 induction d with
 | zero =>
  intro i f acc h hf ha hn
  have e : parts (s.data.toList.drop f) = [s.data.toList.drop f] := parts_noslash _ (by rw [List.take_of_length_le (by rw [List.length_drop]; omega)] at hn; exact hn)
  refine ev_at fun k => ?_
  simp only [spec_l02Names.l0]
  rw [if_neg (by omega), if_pos (by omega), if_pos (by omega), if_pos (by omega), e, Int.toNat_natCast, extract_ofL, List.take_of_length_le (by omega)]
  rfl
 | succ d ih =>
  intro i f acc h hf ha hn
  have hi : i < s.data.toList.length := by omega
  have hb := bt_get s i hi
  by_cases h47 : s.data.toList[i] = 47
  ·
   have e : s.data.toList.drop f = (s.data.toList.drop f).take (i - f) ++ 47 :: s.data.toList.drop (i + 1) := by
    conv => lhs; rw [← List.take_append_drop (i - f) (s.data.toList.drop f)]
    rw [List.drop_drop, show f + (i - f) = i by omega, List.drop_eq_getElem_cons hi, h47]
   have ih' := ih (i + 1) (i + 1) (acc ++ [s.extract f i]) (by omega) (by omega) (by simp; omega) (by simp)
   have e2 : s.extract f i = ofL ((s.data.toList.drop f).take (i - f)) := by rw [extract_ofL, List.drop_take]
   rw [e, parts_append, parts_noslash _ hn, List.map_append, List.map_cons, List.map_nil, ← e2, ← List.append_assoc]
   refine Ev.step (fun k => ?_) ih'
   simp only [spec_l02Names.l0]
   rw [if_pos (by omega), if_pos (by omega), if_pos (by rw [hb]; exact (toNat_47 _).2 h47), if_pos (by omega), if_pos (by omega), if_pos (by omega), if_pos (by omega), w64s i (by omega), Int.toNat_natCast, Int.toNat_natCast]
  ·
   have ih' := ih (i + 1) f acc (by omega) (by omega) (by omega) (by
    rw [show i + 1 - f = (i - f) + 1 by omega, List.take_succ_eq_append_getElem (by rw [List.length_drop]; omega)]
    intro b hm
    rcases List.mem_append.1 hm with hm | hm
    ·
     exact hn b hm
    ·
     rw [List.mem_singleton.1 hm, List.getElem_drop]
     have : f + (i - f) = i := by omega
     simp only [this]
     exact h47)
   refine Ev.step (fun k => ?_) ih'
   simp only [spec_l02Names.l0]
   rw [if_pos (by omega), if_pos (by omega), if_neg (by rw [hb]; exact fun e => h47 ((toNat_47 _).1 e)), w64s i (by omega)]
theorem l02_ev (s : ByteArray) (hs : s.size ≤ 1048576) : Ev (fun k => spec_l02Names.f k s) (namesB s) := by
 have := names_loop s hs s.size 0 0 [] (by omega) (by omega) (by simp) (by simp)
 simpa [namesB, spec_l02Names.f] using this
def pathOk (s : ByteArray) : Bool := decide (s.size ≤ 200) && ((namesB s).all nameOk && decide ((namesB s).length ≤ 8))
def names (s : ByteArray) : List ByteArray := if pathOk s then namesB s else []
theorem names_size (s : ByteArray) (x : ByteArray) (h : x ∈ namesB s) : x.size ≤ s.size := by
 have key : ∀ (l : List UInt8) (p : List UInt8), p ∈ parts l → p.length ≤ l.length := by
  intro l
  induction l with
  | nil => intro p hp; simp [parts] at hp; subst hp; simp
  | cons b l ih =>
   intro p hp
   rw [parts_cons] at hp
   by_cases hb : b = 47
   ·
    rw [if_pos hb] at hp
    rcases List.mem_cons.1 hp with rfl | hp
    ·
     simp
    ·
     have := ih p hp; simp; omega
   ·
    rw [if_neg hb] at hp
    rw [← parts_eta l] at ih
    rcases List.mem_cons.1 hp with rfl | hp
    ·
     have := ih _ List.mem_cons_self; simp at this ⊢; omega
    ·
     have := ih p (List.mem_cons_of_mem _ hp); simp; omega
 obtain ⟨l, hl, rfl⟩ := List.mem_map.1 h
 have := key _ l hl
 rw [size_eq, size_eq, ofL_data]; exact this
theorem rdB (l : List ByteArray) (i : Nat) (h : i < l.length) : rdOf ByteArray.empty l (i : Int) = l[i] := by
 unfold rdOf; rw [Int.toNat_natCast, List.getD_eq_getElem?_getD, List.getElem?_eq_getElem h]; rfl
theorem all_drop (l : List ByteArray) (f : ByteArray → Bool) (i : Nat) (h : i < l.length) : (l.drop i).all f = (f l[i] && (l.drop (i + 1)).all f) := by
 rw [List.drop_eq_getElem_cons h]; rfl
theorem spec_loop2 (l : List ByteArray) (hl : l.length ≤ 1048577) (hz : ∀ x ∈ l, x.size ≤ 1048576) (d : Nat) : ∀ i : Nat, i + d = l.length → Ev (fun k => spec_PathOk.l0 k l i) ((l.drop i).all nameOk && decide (l.length ≤ 8)) := by
 induction d with
 | zero =>
  intro i h
  refine ev_at fun k => ?_
  simp only [spec_PathOk.l0]
  rw [if_neg (by omega), List.drop_eq_nil_of_le (by omega)]
  simp
  omega
 | succ d ih =>
  intro i h
  have hi : i < l.length := by omega
  rw [all_drop l nameOk i hi]
  refine Ev.step (f := fun k => (spec_NameOk.f k l[i]).bind fun t118 => (if t118 = true then (spec_PathOk.l0 k l ((i + 1 : Nat) : Int)) else (some false))) (fun k => ?_) ?_
  ·
   simp only [spec_PathOk.l0]
   rw [if_pos (by omega), if_pos (by omega), rdB l i hi, w64s i (by omega)]
  ·
   refine Ev.bind (Name.spec_ev l[i] (hz _ (List.getElem_mem hi))) ?_
   cases hn : (allok (bytesOf l[i]) && Name.rest l[i]) with
   | false =>
    have : nameOk l[i] = false := hn
    rw [this]
    simp only [Bool.false_and, Bool.false_eq_true, if_false]
    exact Ev.now _
   | true =>
    have : nameOk l[i] = true := hn
    rw [this]
    simp only [Bool.true_and, if_true]
    exact ih (i + 1) (by omega)
theorem spec_path (s : ByteArray) : Ev (fun k => spec_PathOk.f k s) (pathOk s) := by
 unfold spec_PathOk.f pathOk
 by_cases h : (s.size : Int) > 200
 ·
  simp only [if_pos h]
  rw [decide_eq_false (by omega), Bool.false_and]
  exact Ev.now _
 ·
  simp only [if_neg h]
  rw [decide_eq_true (show s.size ≤ 200 by omega), Bool.true_and]
  refine Ev.bind (l02_ev s (by omega)) ?_
  have hl := namesB_length s
  have := spec_loop2 (namesB s) (by omega) (fun x hx => by have := names_size s x hx; omega) (namesB s).length 0 (by omega)
  simpa using this
theorem spec_names (s : ByteArray) : Ev (fun k => spec_Names.f k s) (names s) := by
 unfold spec_Names.f names
 refine Ev.bind (spec_path s) ?_
 cases h : pathOk s with
 | false => simp only [Bool.false_eq_true, if_false]; exact Ev.now _
 | true =>
  simp only [if_true]
  have h200 : s.size ≤ 200 := by unfold pathOk at h; simp at h; omega
  exact Ev.bind (l02_ev s (by omega)) (Ev.now _)
theorem nameOk_size (s : ByteArray) (h : nameOk s = true) : 1 ≤ s.size ∧ s.size ≤ 20 := by
 unfold nameOk Name.rest at h
 simp at h
 omega
theorem join_len (ps : List (List UInt8)) (hne : ps ≠ []) (h : ∀ p ∈ ps, p.length ≤ 20) : (Go.Lib.join ps [47]).length + 1 ≤ 21 * ps.length := by
 induction ps with
 | nil => exact absurd rfl hne
 | cons x r ih =>
  have hx := h x (by simp)
  cases r with
  | nil => rw [Go.Lib.join_one]; simp; omega
  | cons y r =>
   have := ih (by simp) (fun p hp => h p (by simp [hp]))
   rw [join_step x _ (by simp)]
   simp at this ⊢
   omega
theorem short (s : ByteArray) (h : (namesB s).all nameOk = true) (h8 : (namesB s).length ≤ 8) : s.size ≤ 167 := by
 have h1 : ∀ p ∈ parts s.data.toList, p.length ≤ 20 := by
  intro p hp
  have := nameOk_size (ofL p) (List.all_eq_true.1 h _ (List.mem_map.2 ⟨p, hp, rfl⟩))
  rw [size_eq, ofL_data] at this
  omega
 have h2 := join_len _ (parts_ne s.data.toList) h1
 rw [join_parts] at h2
 rw [namesB, List.length_map] at h8
 rw [size_eq]
 omega
theorem pathOk_eq (s : ByteArray) : pathOk s = ((namesB s).all nameOk && decide ((namesB s).length ≤ 8)) := by
 unfold pathOk
 cases h : ((namesB s).all nameOk && decide ((namesB s).length ≤ 8)) with
 | false => simp
 | true =>
  simp only [Bool.and_eq_true, decide_eq_true_eq] at h
  have := short s h.1 h.2
  rw [decide_eq_true (by omega)]
  rfl
theorem impl_loop2 (r l : List ByteArray) (hl : l.length ≤ 1048577) (hz : ∀ x ∈ l, x.size ≤ 1048576) (d : Nat) : ∀ i : Nat, i + d = l.length → Ev (fun k => impl_Names.l0 k r l (l.length : Int) i) (if (l.drop i).all nameOk then r else []) := by
 induction d with
 | zero =>
  intro i h
  refine ev_at fun k => ?_
  simp only [impl_Names.l0]
  rw [if_neg (by omega), List.drop_eq_nil_of_le (by omega)]
  rfl
 | succ d ih =>
  intro i h
  have hi : i < l.length := by omega
  rw [all_drop l nameOk i hi]
  refine Ev.step (f := fun k => (impl_NameOk.f k l[i]).bind fun t134 => (if t134 = true then (impl_Names.l0 k r l (l.length : Int) ((i + 1 : Nat) : Int)) else (some ([] : List ByteArray)))) (fun k => ?_) ?_
  ·
   simp only [impl_Names.l0]
   rw [if_pos (by omega), if_pos (by omega), if_pos (by omega), rdB l i hi, w64s i (by omega)]
  ·
   refine Ev.bind (Name.impl_ev l[i] (hz _ (List.getElem_mem hi))) ?_
   cases hn : (allok (bytesOf l[i]) && Name.rest l[i]) with
   | false =>
    have : nameOk l[i] = false := hn
    rw [this]
    simp only [Bool.false_and, Bool.false_eq_true, if_false]
    exact Ev.now _
   | true =>
    have : nameOk l[i] = true := hn
    rw [this]
    simp only [Bool.true_and, if_true]
    exact ih (i + 1) (by omega)
theorem impl_names (s : ByteArray) : Ev (fun k => impl_Names.f k s) (names s) := by
 unfold impl_Names.f names
 rw [pathOk_eq]
 by_cases h : (s.size : Int) > 168
 ·
  simp only [if_pos h]
  cases hb : ((namesB s).all nameOk && decide ((namesB s).length ≤ 8)) with
  | false => simp only [Bool.false_eq_true, if_false]; exact Ev.now _
  | true =>
   simp only [Bool.and_eq_true, decide_eq_true_eq] at hb
   have := short s hb.1 hb.2
   omega
 ·
  simp only [if_neg h]
  have hsp : strings_Split.f s (⟨#[47]⟩ : ByteArray) = some (namesB s) := by
   unfold strings_Split.f
   rw [if_pos (by omega), if_pos (by decide)]
   exact congrArg some (splitB_names s)
  simp only [hsp, Option.bind_some]
  by_cases h8 : ((namesB s).length : Int) > 8
  ·
   simp only [if_pos h8]
   rw [decide_eq_false (show ¬ (namesB s).length ≤ 8 by omega), Bool.and_false]
   exact Ev.now _
  ·
   simp only [if_neg h8]
   rw [decide_eq_true (show (namesB s).length ≤ 8 by omega), Bool.and_true]
   have := impl_loop2 (namesB s) (namesB s) (by omega) (fun x hx => by have := names_size s x hx; omega) (namesB s).length 0 (by omega)
   simpa using this
theorem names_pos (s : ByteArray) : decide (((names s).length : Int) > 0) = pathOk s := by
 unfold names
 cases h : pathOk s with
 | false => simp
 | true =>
  have : 0 < (namesB s).length := List.length_pos_iff.2 (namesB_ne s)
  simp
  omega
theorem names_length (s : ByteArray) : (names s).length ≤ 8 := by
 unfold names
 cases h : pathOk s with
 | false => simp
 | true =>
  rw [pathOk_eq] at h
  simp only [Bool.and_eq_true, decide_eq_true_eq] at h
  simp only [if_true]
  exact h.2

end Go.Proofs.YtnfihjebbhjgjaaDoor.Paths
end

section
/- A path's test and its parent: what the program and the reference compute. No condition. -/
namespace Go.Proofs.YtnfihjebbhjgjaaDoor.Pure
open Go Go.RowKit Go.Proofs.YtnfihjebbhjgjaaDoor.PSm Go.Proofs.YtnfihjebbhjgjaaDoorW.PrintWords Go.Proofs.YtnfihjebbhjgjaaDoorW.PrintMore Go.Proofs.YtnfihjebbhjgjaaDoor.Arith Go.Proofs.YtnfihjebbhjgjaaDoor.Lib Go.Proofs.YtnfihjebbhjgjaaDoor.Parts Go.Proofs.YtnfihjebbhjgjaaDoor.Paths
set_option linter.unusedSimpArgs false
set_option linter.unusedVariables false

theorem impl_path (s : ByteArray) : Ev (fun k => impl_PathOk.f k s) (pathOk s) := by
 unfold impl_PathOk.f
 refine Ev.bind (impl_names s) ?_
 rw [names_pos s]
 exact Ev.now _
theorem take_join (l : List ByteArray) (i : Nat) (h : i < l.length) : (joinB (l.take (i + 1))) = if i = 0 then l[i] else (joinB (l.take i) ++ (⟨#[47]⟩ : ByteArray)) ++ l[i] := by
 rw [List.take_succ_eq_append_getElem h]
 by_cases h0 : i = 0
 ·
  subst h0
  rw [if_pos rfl]
  unfold joinB
  simp [Go.Lib.join_one, ofL_of]
 ·
  rw [if_neg h0]
  apply Parts.ext
  unfold joinB
  rw [ofL_data, List.map_append, join_append _ _ (by intro e; have := congrArg List.length e; rw [List.length_map, List.length_take, List.length_nil] at this; omega) (by simp)]
  simp only [List.map_cons, List.map_nil, Go.Lib.join_one, ByteArray.data_append, Array.toList_append, ofL_data, List.append_assoc]
  rfl
theorem parent_loop (l : List ByteArray) (hl : l.length ≤ 8) (hz : ∀ x ∈ l, x.size ≤ 20) (d : Nat) : ∀ (i : Nat), i + d + 1 = l.length → (joinB (l.take i)).size ≤ 21 * i → Ev (fun k => spec_ParentOf.l0 k l (joinB (l.take i)) i) (joinB (l.take (l.length - 1))) := by
 induction d with
 | zero =>
  intro i h hj
  refine ev_at fun k => ?_
  simp only [spec_ParentOf.l0]
  rw [w64s i (by omega), if_neg (by omega), show l.length - 1 = i by omega]
 | succ d ih =>
  intro i h hj
  have hi : i < l.length := by omega
  have hx := hz _ (List.getElem_mem hi)
  have hz1 : (joinB (l.take i) ++ (⟨#[47]⟩ : ByteArray)).size = (joinB (l.take i)).size + 1 := by rw [ByteArray.size_append]; rfl
  have e := take_join l i hi
  have hs : (joinB (l.take (i + 1))).size ≤ 21 * (i + 1) := by
   rw [e]
   split
   ·
    omega
   ·
    rw [ByteArray.size_append, hz1]; omega
  have ih' := ih (i + 1) (by omega) hs
  refine Ev.step (fun k => ?_) ih'
  simp only [spec_ParentOf.l0]
  rw [w64s i (by omega), if_pos (by omega), rdB l i hi]
  by_cases h0 : i = 0
  ·
   subst h0
   rw [if_neg (by omega), if_pos (by omega), if_pos (by omega)]
   have e0 : joinB (l.take 0) = (⟨#[]⟩ : ByteArray) := rfl
   rw [e, if_pos rfl, e0]
   have e1 : (⟨#[]⟩ : ByteArray) ++ l[0] = l[0] := by apply Parts.ext; simp
   rw [e1]
   rw [if_pos (by show 0 + _ ≤ _; omega)]
  ·
   rw [if_pos (by omega), if_pos (by omega), if_pos (by omega), if_pos (by omega), if_pos (by rw [hz1]; omega), e, if_neg h0]
def parent (s : ByteArray) : ByteArray := joinB ((names s).take ((names s).length - 1))
theorem names_sizes (s : ByteArray) : ∀ x ∈ names s, x.size ≤ 20 := by
 unfold names
 cases h : pathOk s with
 | false => intro x hx; simp at hx
 | true =>
  rw [pathOk_eq] at h
  simp only [Bool.and_eq_true, decide_eq_true_eq] at h
  simp only [if_true]
  intro x hx
  exact (nameOk_size x (List.all_eq_true.1 h.1 x hx)).2
theorem joinB_size (l : List ByteArray) (hz : ∀ x ∈ l, x.size ≤ 20) : (joinB l).size ≤ 21 * l.length := by
 cases hl : l with
 | nil => decide
 | cons a t =>
  have h1 := join_len (l.map (·.data.toList)) (by rw [hl]; simp) (by
   intro p hp
   obtain ⟨x, hx, rfl⟩ := List.mem_map.1 hp
   have := hz x hx
   rw [Parts.size_eq] at this; exact this)
  rw [← hl, Parts.size_eq]
  unfold joinB
  rw [ofL_data]
  simp at h1 ⊢
  omega
theorem spec_parent (s : ByteArray) : Ev (fun k => spec_ParentOf.f k s) (parent s) := by
 unfold spec_ParentOf.f parent
 refine Ev.bind (spec_names s) ?_
 have hl := names_length s
 by_cases h0 : (names s).length = 0
 ·
  have e : names s = [] := List.eq_nil_of_length_eq_zero h0
  rw [e]
  refine ev_at fun k => ?_
  simp only [spec_ParentOf.l0]
  rw [if_neg (by rw [w64 (by omega) (by omega)]; simp)]
  rfl
 ·
  exact parent_loop (names s) hl (names_sizes s) ((names s).length - 1) 0 (by omega) (by show (joinB []).size ≤ 21 * 0; decide)
theorem impl_parent (s : ByteArray) : Ev (fun k => impl_ParentOf.f k s) (parent s) := by
 unfold impl_ParentOf.f parent
 refine Ev.bind (impl_names s) ?_
 have hl := names_length s
 by_cases h0 : ((names s).length : Int) = 0
 ·
  have e : names s = [] := List.eq_nil_of_length_eq_zero (by omega)
  simp only [if_pos h0]
  rw [e]
  exact Ev.now _
 ·
  simp only [if_neg h0]
  have e1 : wrap64 (((names s).length : Int) - 1) = (((names s).length - 1 : Nat) : Int) := by rw [w64 (by omega) (by omega)]; omega
  rw [e1, if_pos (by omega), if_pos (by omega), Int.toNat_natCast]
  have hj := joinB_size ((names s).take ((names s).length - 1)) (fun x hx => names_sizes s x (List.mem_of_mem_take hx))
  have hlen : ((names s).take ((names s).length - 1)).length ≤ 8 := by rw [List.length_take]; omega
  have e2 : strings_Join.f ((names s).take ((names s).length - 1)) (⟨#[47]⟩ : ByteArray) = some (joinB ((names s).take ((names s).length - 1))) := by
   unfold strings_Join.f
   rw [if_pos (by omega), if_pos (by
    have e3 : (Go.Lib.join (((names s).take ((names s).length - 1)).map (·.data.toList)) [47]).length = (joinB ((names s).take ((names s).length - 1))).size := by rw [Parts.size_eq, joinB, ofL_data]
    show (Go.Lib.join (((names s).take ((names s).length - 1)).map (·.data.toList)) [47]).length ≤ _
    rw [e3]; omega)]
   rfl
  rw [e2]
  exact Ev.now _

end Go.Proofs.YtnfihjebbhjgjaaDoor.Pure
end

section
/- Nodes: the program's test and the reference's. No condition but the texts' lengths. -/
namespace Go.Proofs.YtnfihjebbhjgjaaDoor.Nodes
open Go Go.RowKit Go.Proofs.YtnfihjebbhjgjaaDoor.PSm Go.Proofs.YtnfihjebbhjgjaaDoorW.PrintWords Go.Proofs.YtnfihjebbhjgjaaDoorW.PrintMore Go.Proofs.YtnfihjebbhjgjaaDoor.Arith Go.Proofs.YtnfihjebbhjgjaaDoor.Lib Go.Proofs.YtnfihjebbhjgjaaDoor.Parts Go.Proofs.YtnfihjebbhjgjaaDoor.Paths Go.Proofs.YtnfihjebbhjgjaaDoor.Name
set_option linter.unusedSimpArgs false
set_option linter.unusedVariables false

def noNl (s : ByteArray) : Bool := !decide (0 ≤ Go.Lib.indexByte s.data.toList 10)
theorem index_cons (b : UInt8) (l : List UInt8) : decide (0 ≤ Go.Lib.indexByte (b :: l) 10) = (decide (b = 10) || decide (0 ≤ Go.Lib.indexByte l 10)) := by
 have hg := Go.Lib.indexByte_ge l 10
 conv => lhs; rw [Go.Lib.indexByte]
 by_cases h : b = 10
 ·
  subst h; simp
 ·
  have hb : (b == 10) = false := by simpa using h
  rw [hb]
  by_cases h1 : Go.Lib.indexByte l 10 = -1
  ·
   simp [h, h1]
  ·
   have : (Go.Lib.indexByte l 10 == -1) = false := by simpa using h1
   rw [this]
   have h2 : 0 ≤ Go.Lib.indexByte l 10 := by omega
   have h3 : 0 ≤ Go.Lib.indexByte l 10 + 1 := by omega
   simp [h, h2, h3]
theorem toNat_10 (b : UInt8) : ((b.toNat : Int) = 10) ↔ b = 10 := by
 constructor
 ·
  intro h
  apply UInt8.toNat_inj.1
  have : b.toNat = 10 := by omega
  rw [this]; rfl
 ·
  rintro rfl; rfl
theorem nl_loop (a : ByteArray) (b c d : Int) (s t : ByteArray) (g : Int) (ht : t.size ≤ 60) (n : Nat) : ∀ i : Nat, i + n = t.size → Ev (fun k => spec_NodeOk.l0 k i a b c d s t g) (!decide (0 ≤ Go.Lib.indexByte (t.data.toList.drop i) 10)) := by
 have hL := Parts.size_eq t
 induction n with
 | zero =>
  intro i h
  refine ev_at fun k => ?_
  simp only [spec_NodeOk.l0]
  rw [if_neg (by omega), List.drop_eq_nil_of_le (by omega)]
  rfl
 | succ n ih =>
  intro i h
  have hi : i < t.data.toList.length := by omega
  have hb := bt_get t i hi
  rw [List.drop_eq_getElem_cons hi, index_cons]
  by_cases h10 : t.data.toList[i] = 10
  ·
   refine ev_at fun k => ?_
   simp only [spec_NodeOk.l0]
   rw [if_pos (by omega), if_pos (by omega), if_pos (by rw [hb]; exact (toNat_10 _).2 h10), decide_eq_true h10]
   rfl
  ·
   rw [decide_eq_false h10, Bool.false_or]
   refine Ev.step (fun k => ?_) (ih (i + 1) (by omega))
   simp only [spec_NodeOk.l0]
   rw [if_pos (by omega), if_pos (by omega), if_neg (by rw [hb]; exact fun e => h10 ((toNat_10 _).1 e)), w64s i (by omega)]
def emp (s : ByteArray) : Bool := decide (s.toList = ([] : List UInt8))
def kinds (b c : Int) (s t : ByteArray) (g : Int) : Bool :=
 if b = 0 then emp s && (emp t && (g == 0)) else if b = 1 then decide ((s.size : Int) ≤ 20000) && (emp t && decide (0 ≤ g ∧ g ≤ 200)) else if b = 2 then emp s && (decide (c = 0) && (decide (g = 0) && (decide (1 ≤ (t.size : Int) ∧ (t.size : Int) ≤ 60) && noNl t))) else false
def nodeOk (a : ByteArray) (b c d : Int) (s t : ByteArray) (g : Int) : Bool := pathOk a && (decide (0 ≤ c ∧ c ≤ 511) && (decide (0 ≤ d ∧ d ≤ 1000000000) && kinds b c s t g))
theorem spec_j1 (a : ByteArray) (b c d : Int) (s t : ByteArray) (g : Int) (x : Bool) (hx : x = false → t.size ≤ 60) : Ev (fun k => spec_NodeOk.j1 k x a b c d s t g) (!x && noNl t) := by
 cases x with
 | true => exact ev_at fun k => by simp [spec_NodeOk.j1]
 | false =>
  have := nl_loop a b c d s t g (hx rfl) t.size 0 (by omega)
  rw [List.drop_zero] at this
  exact Ev.step (fun k => by simp only [spec_NodeOk.j1, Bool.false_eq_true, if_false]; rfl) this
theorem spec_j0 (a : ByteArray) (b c d : Int) (s t : ByteArray) (g : Int) (x : Bool) : Ev (fun k => spec_NodeOk.j0 k x a b c d s t g) (!x && kinds b c s t g) := by
 cases x with
 | true => exact ev_at fun k => by simp [spec_NodeOk.j0]
 | false =>
  simp only [Bool.not_false, Bool.true_and]
  unfold kinds emp
  by_cases h0 : b = 0
  ·
   simp only [if_pos h0]
   refine ev_at fun k => ?_
   simp only [spec_NodeOk.j0, Bool.false_eq_true, if_false, if_pos h0]
   by_cases h1 : s.toList = ([] : List UInt8)
   ·
    by_cases h2 : t.toList = ([] : List UInt8)
    ·
     simp [h1, h2]
    ·
     simp [h1, h2]
   ·
    simp [h1]
  ·
   simp only [if_neg h0]
   by_cases hb1 : b = 1
   ·
    simp only [if_pos hb1]
    refine ev_at fun k => ?_
    simp only [spec_NodeOk.j0, Bool.false_eq_true, if_false, if_neg h0, if_pos hb1, l01_eq, Option.bind_some]
    by_cases h1 : (s.size : Int) ≤ 20000
    ·
     by_cases h2 : t.toList = ([] : List UInt8)
     ·
      simp [h1, h2]
     ·
      simp [h1, h2]
    ·
     simp [h1]
   ·
    simp only [if_neg hb1]
    by_cases hb2 : b = 2
    ·
     simp only [if_pos hb2]
     have jt : Ev (fun k => spec_NodeOk.j1 k true a b c d s t g) false := by simpa using spec_j1 a b c d s t g true (fun h => by cases h)
     have hh : ∀ k, spec_NodeOk.j0 (k + 1) false a b c d s t g = (if s.toList = ([] : List UInt8) then (if c = 0 then (if g = 0 then spec_NodeOk.j1 k (!decide (1 ≤ (t.size : Int) ∧ (t.size : Int) ≤ 60)) a b c d s t g else spec_NodeOk.j1 k true a b c d s t g) else spec_NodeOk.j1 k true a b c d s t g) else spec_NodeOk.j1 k true a b c d s t g) := by
      intro k
      simp only [spec_NodeOk.j0, Bool.false_eq_true, if_false, if_neg h0, if_neg hb1, if_pos hb2, l01_eq, Option.bind_some]
     by_cases h1 : s.toList = ([] : List UInt8)
     ·
      by_cases h2 : c = 0
      ·
       by_cases h3 : g = 0
       ·
        have := spec_j1 a b c d s t g (!decide (1 ≤ (t.size : Int) ∧ (t.size : Int) ≤ 60)) (fun h => by simp at h; omega)
        rw [Bool.not_not] at this
        rw [decide_eq_true h1, decide_eq_true h2, decide_eq_true h3, Bool.true_and, Bool.true_and, Bool.true_and]
        exact Ev.step (fun k => by rw [hh, if_pos h1, if_pos h2, if_pos h3]) this
       ·
        rw [decide_eq_true h1, decide_eq_true h2, decide_eq_false h3]
        exact Ev.step (fun k => by rw [hh, if_pos h1, if_pos h2, if_neg h3]) jt
      ·
       rw [decide_eq_true h1, decide_eq_false h2]
       exact Ev.step (fun k => by rw [hh, if_pos h1, if_neg h2]) jt
     ·
      rw [decide_eq_false h1]
      exact Ev.step (fun k => by rw [hh, if_neg h1]) jt
    ·
     simp only [if_neg hb2]
     exact ev_at fun k => by simp [spec_NodeOk.j0, h0, hb1, hb2]
theorem spec_node (a : ByteArray) (b c d : Int) (s t : ByteArray) (g : Int) : Ev (fun k => spec_NodeOk.f k a b c d s t g) (nodeOk a b c d s t g) := by
 unfold spec_NodeOk.f nodeOk
 refine Ev.bind (spec_path a) ?_
 have jt : Ev (fun k => spec_NodeOk.j0 k true a b c d s t g) false := by simpa using spec_j0 a b c d s t g true
 cases h : pathOk a with
 | false => simp only [Bool.false_eq_true, if_false, Bool.false_and]; exact jt
 | true =>
  simp only [if_true, Bool.true_and, l01_eq, Option.bind_some]
  by_cases hc : 0 ≤ c ∧ c ≤ 511
  ·
   simp only [decide_eq_true hc, if_true, Bool.true_and]
   have := spec_j0 a b c d s t g (!decide (0 ≤ d ∧ d ≤ 1000000000))
   rw [Bool.not_not] at this
   exact this
  ·
   simp only [decide_eq_false hc, Bool.false_eq_true, if_false, Bool.false_and]
   exact jt
theorem impl_j0 (a : ByteArray) (b c d : Int) (s t : ByteArray) (g : Int) (x : Bool) : Ev (fun k => impl_NodeOk.j0 k x a b c d s t g) (!x && kinds b c s t g) := by
 cases x with
 | true => exact ev_at fun k => by simp [impl_NodeOk.j0]
 | false =>
  simp only [Bool.not_false, Bool.true_and]
  refine ev_at fun k => ?_
  unfold kinds emp
  simp only [impl_NodeOk.j0, Bool.false_eq_true, if_false, wi_eq, Option.bind_some]
  by_cases h0 : b = 0
  ·
   simp only [if_pos h0]
   by_cases h1 : s.toList = ([] : List UInt8)
   ·
    by_cases h2 : t.toList = ([] : List UInt8)
    ·
     simp [h1, h2]
    ·
     simp [h1, h2]
   ·
    simp [h1]
  ·
   simp only [if_neg h0]
   by_cases hb1 : b = 1
   ·
    simp only [if_pos hb1]
    by_cases h1 : (s.size : Int) ≤ 20000
    ·
     by_cases h2 : t.toList = ([] : List UInt8)
     ·
      simp [h1, h2]
     ·
      simp [h1, h2]
    ·
     simp [h1]
   ·
    simp only [if_neg hb1]
    by_cases hb2 : b = 2
    ·
     simp only [if_pos hb2]
     have hc : strings_Contains.f t (⟨#[10]⟩ : ByteArray) = some (!noNl t) := by
      unfold strings_Contains.f noNl
      rw [if_pos (by decide), Bool.not_not]
      rfl
     rw [hc]
     by_cases h1 : s.toList = ([] : List UInt8)
     ·
      by_cases h2 : c = 0
      ·
       by_cases h3 : g = 0
       ·
        by_cases h4 : 1 ≤ (t.size : Int) ∧ (t.size : Int) ≤ 60
        ·
         simp [h1, h2, h3, h4]
        ·
         simp [h1, h2, h3, h4]
       ·
        simp [h1, h2, h3]
      ·
       simp [h1, h2]
     ·
      simp [h1]
    ·
     simp [hb2]
theorem impl_node (a : ByteArray) (b c d : Int) (s t : ByteArray) (g : Int) : Ev (fun k => impl_NodeOk.f k a b c d s t g) (nodeOk a b c d s t g) := by
 unfold impl_NodeOk.f nodeOk
 refine Ev.bind (Pure.impl_path a) ?_
 have jt : Ev (fun k => impl_NodeOk.j0 k true a b c d s t g) false := by simpa using impl_j0 a b c d s t g true
 cases h : pathOk a with
 | false => simp only [Bool.false_eq_true, if_false, Bool.false_and]; exact jt
 | true =>
  simp only [if_true, Bool.true_and, wi_eq, Option.bind_some]
  by_cases hc : 0 ≤ c ∧ c ≤ 511
  ·
   simp only [decide_eq_true hc, if_true, Bool.true_and]
   have := impl_j0 a b c d s t g (!decide (0 ≤ d ∧ d ≤ 1000000000))
   rw [Bool.not_not] at this
   exact this
  ·
   simp only [decide_eq_false hc, Bool.false_eq_true, if_false, Bool.false_and]
   exact jt

end Go.Proofs.YtnfihjebbhjgjaaDoor.Nodes
end

section
/- Trees: what TreeOk asks of a list of nodes, in plain words. No condition. -/
section
/- Trees: what TreeOk asks of a list of nodes, in plain words. No condition. -/
namespace Go.Proofs.YtnfihjebbhjgjaaDoor.Tree
open Go Go.RowKit Go.Proofs.YtnfihjebbhjgjaaDoor.PSm Go.Proofs.YtnfihjebbhjgjaaDoorW.PrintWords Go.Proofs.YtnfihjebbhjgjaaDoorW.PrintMore Go.Proofs.YtnfihjebbhjgjaaDoor.Arith Go.Proofs.YtnfihjebbhjgjaaDoor.Lib Go.Proofs.YtnfihjebbhjgjaaDoor.Parts Go.Proofs.YtnfihjebbhjgjaaDoor.Paths Go.Proofs.YtnfihjebbhjgjaaDoor.Nodes
set_option linter.unusedSimpArgs false
set_option linter.unusedVariables false

def el (l : List S41) (i : Nat) : S41 := l.getD i z41
theorem rd_el (l : List S41) (i : Nat) : rd_T41 l (i : Int) = el l i := by unfold rd_T41 el; rw [Int.toNat_natCast]
def okN (x : S41) : Bool := nodeOk x.f0 x.f1 x.f2 x.f3 x.f4 x.f5 x.f6
def firstFrom (l : List S41) (p : ByteArray) : Nat → Nat → Int
 | 0, _ => -1
 | d + 1, i => if (el l i).f0.toList = p.toList then (i : Int) else firstFrom l p d (i + 1)
def idxI (l : List S41) (p : ByteArray) : Int := firstFrom l p l.length 0
theorem l10_loop (l : List S41) (p : ByteArray) (hl : l.length ≤ 1000000) (d : Nat) : ∀ i : Nat, i + d = l.length → Ev (fun k => spec_l10At.l0 k l p i) (firstFrom l p d i) := by
 induction d with
 | zero =>
  intro i h
  refine ev_at fun k => ?_
  simp only [spec_l10At.l0]
  rw [if_neg (by omega)]
  rfl
 | succ d ih =>
  intro i h
  by_cases hc : (el l i).f0.toList = p.toList
  ·
   refine ev_at fun k => ?_
   simp only [spec_l10At.l0]
   rw [if_pos (by omega), if_pos (by omega), rd_el, if_pos hc]
   simp only [firstFrom]
   rw [if_pos hc]
  ·
   refine Ev.step (f := fun k => spec_l10At.l0 k l p ((i + 1 : Nat) : Int)) (fun k => ?_) ?_
   ·
    simp only [spec_l10At.l0]
    rw [if_pos (by omega), if_pos (by omega), rd_el, if_neg hc, w64s i (by omega)]
   ·
    simp only [firstFrom]
    rw [if_neg hc]
    exact ih (i + 1) (by omega)
theorem l10_ev (l : List S41) (p : ByteArray) (hl : l.length ≤ 1000000) : Ev (fun k => spec_l10At.f k l p) (idxI l p) := by
 unfold spec_l10At.f idxI
 exact l10_loop l p hl l.length 0 (by omega)
theorem first_spec (l : List S41) (p : ByteArray) (d : Nat) : ∀ i : Nat, (firstFrom l p d i = -1 ∧ ∀ j, i ≤ j → j < i + d → (el l j).f0.toList ≠ p.toList) ∨ ∃ j, i ≤ j ∧ j < i + d ∧ firstFrom l p d i = (j : Int) ∧ (el l j).f0.toList = p.toList := by
 induction d with
 | zero => exact fun i => .inl ⟨rfl, fun j h1 h2 => by omega⟩
 | succ d ih =>
  intro i
  by_cases hc : (el l i).f0.toList = p.toList
  ·
   exact .inr ⟨i, by omega, by omega, by simp only [firstFrom]; rw [if_pos hc], hc⟩
  ·
   simp only [firstFrom]
   rw [if_neg hc]
   rcases ih (i + 1) with ⟨h1, h2⟩ | ⟨j, h1, h2, h3, h4⟩
   ·
    refine .inl ⟨h1, fun j hj hj2 => ?_⟩
    by_cases he : j = i
    ·
     subst he; exact hc
    ·
     exact h2 j (by omega) (by omega)
   ·
    exact .inr ⟨j, by omega, by omega, h3, h4⟩
theorem idx_spec (l : List S41) (p : ByteArray) : (idxI l p = -1 ∧ ∀ j, j < l.length → (el l j).f0.toList ≠ p.toList) ∨ ∃ j, j < l.length ∧ idxI l p = (j : Int) ∧ (el l j).f0.toList = p.toList := by
 rcases first_spec l p l.length 0 with ⟨h1, h2⟩ | ⟨j, h1, h2, h3, h4⟩
 ·
  exact .inl ⟨h1, fun j hj => h2 j (by omega) (by omega)⟩
 ·
  exact .inr ⟨j, by omega, h3, h4⟩
end Go.Proofs.YtnfihjebbhjgjaaDoor.Tree
end

section
/- The order of the bytes' lists: what the tests on paths rest on. No condition. -/
namespace Go.Proofs.YtnfihjebbhjgjaaDoor.Ord
open Go Go.RowKit
set_option linter.unusedSimpArgs false
set_option linter.unusedVariables false

theorem u8 (a b : UInt8) : a < b ∨ a = b ∨ b < a := by
 rcases Nat.lt_trichotomy a.toNat b.toNat with h | h | h
 ·
  exact .inl (UInt8.lt_iff_toNat_lt.mpr h)
 ·
  exact .inr (.inl (UInt8.toNat_inj.1 h))
 ·
  exact .inr (.inr (UInt8.lt_iff_toNat_lt.mpr h))
theorem u8_irr (a : UInt8) : ¬ a < a := fun h => Nat.lt_irrefl _ (UInt8.lt_iff_toNat_lt.mp h)
theorem u8_asym {a b : UInt8} (h : a < b) : ¬ b < a := fun k => by have := UInt8.lt_iff_toNat_lt.mp h; have := UInt8.lt_iff_toNat_lt.mp k; omega
theorem u8_trans {a b c : UInt8} (h : a < b) (k : b < c) : a < c := UInt8.lt_iff_toNat_lt.mpr (Nat.lt_trans (UInt8.lt_iff_toNat_lt.mp h) (UInt8.lt_iff_toNat_lt.mp k))
theorem less_cons (a b : UInt8) (x y : List UInt8) : Op.bytesLess (a :: x) (b :: y) = true ↔ a < b ∨ (a = b ∧ Op.bytesLess x y = true) := by
 rw [Op.bytesLess]; simp
theorem irr : ∀ x : List UInt8, Op.bytesLess x x = false
 | [] => rfl
 | a :: x => by
  cases h : Op.bytesLess (a :: x) (a :: x) with
  | false => rfl
  | true =>
   rcases (less_cons a a x x).mp h with h | ⟨_, h⟩
   ·
    exact absurd h (u8_irr a)
   ·
    rw [irr x] at h; cases h
theorem trans : ∀ {x y z : List UInt8}, Op.bytesLess x y = true → Op.bytesLess y z = true → Op.bytesLess x z = true
 | _, [], _, h, _ => by simp [Op.bytesLess] at h
 | _, _ :: _, [], _, h => by simp [Op.bytesLess] at h
 | [], _ :: _, _ :: _, _, _ => by simp [Op.bytesLess]
 | a :: x, b :: y, c :: z, h, k => by
  rw [less_cons] at h k ⊢
  rcases h with h | ⟨rfl, h⟩
  ·
   rcases k with k | ⟨rfl, k⟩
   ·
    exact .inl (u8_trans h k)
   ·
    exact .inl h
  ·
   rcases k with k | ⟨rfl, k⟩
   ·
    exact .inl k
   ·
    exact .inr ⟨rfl, trans h k⟩
theorem ne {x y : List UInt8} (h : Op.bytesLess x y = true) : x ≠ y := fun e => by rw [e, irr] at h; cases h
theorem asym {x y : List UInt8} (h : Op.bytesLess x y = true) : Op.bytesLess y x = false := by
 cases k : Op.bytesLess y x with
 | false => rfl
 | true => have := trans h k; rw [irr] at this; cases this
theorem cmp_spec : ∀ x y : List UInt8, (Lib.compareBytes x y < 0 ∧ Op.bytesLess x y = true) ∨ (Lib.compareBytes x y = 0 ∧ x = y) ∨ (0 < Lib.compareBytes x y ∧ Op.bytesLess y x = true)
 | [], [] => .inr (.inl ⟨rfl, rfl⟩)
 | [], _ :: _ => .inl ⟨by simp [Lib.compareBytes], by simp [Op.bytesLess]⟩
 | _ :: _, [] => .inr (.inr ⟨by simp [Lib.compareBytes], by simp [Op.bytesLess]⟩)
 | a :: x, b :: y => by
  simp only [less_cons]
  rw [Lib.compareBytes]
  rcases u8 a b with h | h | h
  ·
   rw [if_pos h]; exact .inl ⟨by decide, .inl h⟩
  ·
   subst h
   rw [if_neg (u8_irr a)]
   rcases cmp_spec x y with ⟨h1, h2⟩ | ⟨h1, h2⟩ | ⟨h1, h2⟩
   ·
    rw [if_neg (u8_irr a)]; exact .inl ⟨h1, .inr ⟨rfl, h2⟩⟩
   ·
    rw [if_neg (u8_irr a)]; exact .inr (.inl ⟨h1, by rw [h2]⟩)
   ·
    rw [if_neg (u8_irr a)]; exact .inr (.inr ⟨h1, .inr ⟨rfl, h2⟩⟩)
  ·
   rw [if_neg (u8_asym h), if_pos h]; exact .inr (.inr ⟨by decide, .inl h⟩)
theorem prefixLess : ∀ (p : List UInt8) (a : UInt8) (r : List UInt8), Op.bytesLess p (p ++ a :: r) = true
 | [], _, _ => by simp [Op.bytesLess]
 | b :: p, a, r => (less_cons b b p (p ++ a :: r)).mpr (.inr ⟨rfl, prefixLess p a r⟩)
end Go.Proofs.YtnfihjebbhjgjaaDoor.Ord
end

section
/- Trees: what the two tests come to, in plain words. No condition but the list's length. -/
namespace Go.Proofs.YtnfihjebbhjgjaaDoor.TreeX
open Go Go.RowKit Go.Proofs.YtnfihjebbhjgjaaDoor.PSm Go.Proofs.YtnfihjebbhjgjaaDoorW.PrintWords Go.Proofs.YtnfihjebbhjgjaaDoorW.PrintMore Go.Proofs.YtnfihjebbhjgjaaDoor.Arith Go.Proofs.YtnfihjebbhjgjaaDoor.Lib Go.Proofs.YtnfihjebbhjgjaaDoor.Parts Go.Proofs.YtnfihjebbhjgjaaDoor.Paths Go.Proofs.YtnfihjebbhjgjaaDoor.Nodes Go.Proofs.YtnfihjebbhjgjaaDoor.Tree
set_option linter.unusedSimpArgs false
set_option linter.unusedVariables false

def upTo (t : Nat → Bool) : Nat → Nat → Bool
 | 0, _ => true
 | d + 1, i => t i && upTo t d (i + 1)
theorem upTo_iff (t : Nat → Bool) : ∀ d i, upTo t d i = true ↔ ∀ j, i ≤ j → j < i + d → t j = true
 | 0, i => ⟨fun _ j h1 h2 => by omega, fun _ => rfl⟩
 | d + 1, i => by
  simp only [upTo, Bool.and_eq_true]
  rw [upTo_iff t d (i + 1)]
  constructor
  ·
   rintro ⟨h1, h2⟩ j h3 h4
   by_cases e : j = i
   ·
    subst e; exact h1
   ·
    exact h2 j (by omega) (by omega)
  ·
   exact fun h => ⟨h i (by omega) (by omega), fun j h1 h2 => h j (by omega) (by omega)⟩
theorem elI (l : List S41) (i : Nat) : impl_TreeOk.el l i = el l i := rd_el l i
def path (l : List S41) (i : Nat) : List UInt8 := (el l i).f0.toList
def prevOk (l : List S41) (i : Nat) : Bool := decide (i = 0) || Op.bytesLess (path l (i - 1)) (path l i)
theorem prev_eq (l : List S41) (i : Nat) : impl_TreeOk.prev l i = prevOk l i := by unfold impl_TreeOk.prev prevOk path; rw [elI, elI]
def par (l : List S41) (i : Nat) : ByteArray := Pure.parent (el l i).f0
def isDir (l : List S41) (p : ByteArray) : Bool := decide (p.toList = []) || (decide (0 ≤ idxI l p) && decide ((el l (idxI l p).toNat).f1 = 0))
def key (x y : S41) : Bool := decide (x.f2 = y.f2) && (decide (x.f3 = y.f3) && decide (x.f4.toList = y.f4.toList))
def mate (l : List S41) (i k : Nat) : Bool := !decide ((el l k).f6 = (el l i).f6) || key (el l k) (el l i)
abbrev cnt := impl_TreeOk.cnt
theorem cnt_succ (l : List S41) (g : Int) (i : Nat) : cnt l g (i + 1) = if (el l i).f6 = g then cnt l g i + 1 else cnt l g i := by
 show impl_TreeOk.cnt l g (i + 1) = _
 rw [impl_TreeOk.cnt, elI]
def grp (l : List S41) (i : Nat) : Bool := decide ((el l i).f6 = 0) || (upTo (mate l i) l.length 0 && decide (2 ≤ cnt l (el l i).f6 l.length))
def sumTo (l : List S41) : Nat → Nat
 | 0 => 0
 | i + 1 => sumTo l i + (el l i).f4.size
def testS (l : List S41) (i : Nat) : Bool := okN (el l i) && (prevOk l i && isDir l (par l i))
theorem data_le {x : S41} (h : okN x = true) : x.f4.size ≤ 20000 := by
 have h4 : kinds x.f1 x.f2 x.f4 x.f5 x.f6 = true := by
  unfold okN nodeOk at h
  simp only [Bool.and_eq_true] at h
  exact h.2.2.2
 unfold kinds at h4
 split at h4
 ·
  simp only [Bool.and_eq_true] at h4
  have := (toList_nil x.f4).mp (of_decide_eq_true h4.1)
  omega
 ·
  split at h4
  ·
   simp only [Bool.and_eq_true, decide_eq_true_eq] at h4; omega
  ·
   split at h4
   ·
    simp only [Bool.and_eq_true] at h4
    have := (toList_nil x.f4).mp (of_decide_eq_true h4.1)
    omega
   ·
    cases h4
theorem sum_le (l : List S41) : ∀ i, (∀ j, j < i → (el l j).f4.size ≤ 20000) → sumTo l i ≤ 20000 * i
 | 0, _ => Nat.le_refl _
 | i + 1, h => by
  simp only [sumTo]
  have := sum_le l i (fun j hj => h j (by omega))
  have := h i (by omega)
  omega
end Go.Proofs.YtnfihjebbhjgjaaDoor.TreeX
end

section
/- Trees: what the two tests come to, in plain words. No condition but the list's length. -/
namespace Go.Proofs.YtnfihjebbhjgjaaDoor.TreeX
open Go Go.RowKit Go.Proofs.YtnfihjebbhjgjaaDoor.PSm Go.Proofs.YtnfihjebbhjgjaaDoorW.PrintWords Go.Proofs.YtnfihjebbhjgjaaDoorW.PrintMore Go.Proofs.YtnfihjebbhjgjaaDoor.Arith Go.Proofs.YtnfihjebbhjgjaaDoor.Lib Go.Proofs.YtnfihjebbhjgjaaDoor.Parts Go.Proofs.YtnfihjebbhjgjaaDoor.Paths Go.Proofs.YtnfihjebbhjgjaaDoor.Nodes Go.Proofs.YtnfihjebbhjgjaaDoor.Tree
set_option linter.unusedSimpArgs false
set_option linter.unusedVariables false

theorem l2_ev (l : List S41) (hl : l.length ≤ 200) (i : Nat) (hi : i < l.length) (s : Int) (R : Bool) (hR : Ev (fun k => spec_TreeOk.l1 k l s ((i + 1 : Nat) : Int)) R) (d : Nat) :
 ∀ m : Nat, m + d = l.length → Ev (fun k => spec_TreeOk.l2 k l s (i : Int) (cnt l (el l i).f6 m : Int) (m : Int)) (upTo (mate l i) d m && (decide (2 ≤ cnt l (el l i).f6 l.length) && R)) := by
 induction d with
 | zero =>
  intro m h
  obtain rfl : m = l.length := by omega
  simp only [upTo, Bool.true_and]
  by_cases h2 : 2 ≤ cnt l (el l i).f6 l.length
  ·
   rw [decide_eq_true h2, Bool.true_and]
   refine Ev.step (fun k => ?_) hR
   simp only [spec_TreeOk.l2]
   rw [if_neg (by omega), if_neg (by omega), w64s i (by omega)]
  ·
   rw [decide_eq_false h2, Bool.false_and]
   refine ev_at fun k => ?_
   simp only [spec_TreeOk.l2]
   rw [if_neg (by omega), if_pos (by omega)]
 | succ d ih =>
  intro m h
  have hm : m < l.length := by omega
  have ihm := ih (m + 1) (by omega)
  rw [cnt_succ] at ihm
  have hc := impl_TreeOk.cnt_le l (el l i).f6 m
  simp only [upTo]
  by_cases hg : (el l m).f6 = (el l i).f6
  ·
   rw [if_pos hg] at ihm
   have hstep : ∀ k, spec_TreeOk.l2 (k + 1) l s (i : Int) (cnt l (el l i).f6 m : Int) (m : Int) = (if (el l m).f2 = (el l i).f2 then (if (el l m).f3 = (el l i).f3 then (if (el l m).f4.toList = (el l i).f4.toList then spec_TreeOk.l2 k l s (i : Int) ((cnt l (el l i).f6 m + 1 : Nat) : Int) ((m + 1 : Nat) : Int) else some false) else some false) else some false) := fun k => by
    simp only [spec_TreeOk.l2]
    rw [if_pos (by omega), if_pos (by omega), if_pos (by omega), if_pos (by omega), rd_el, rd_el, if_pos hg, w64s m (by omega), w64s (cnt l (el l i).f6 m) (by show impl_TreeOk.cnt _ _ _ + 1 < _; omega)]
   by_cases h2 : (el l m).f2 = (el l i).f2
   ·
    by_cases h3 : (el l m).f3 = (el l i).f3
    ·
     by_cases h4 : (el l m).f4.toList = (el l i).f4.toList
     ·
      have hmate : mate l i m = true := by unfold mate key; simp [hg, h2, h3, h4]
      rw [hmate, Bool.true_and]
      exact Ev.step (fun k => by rw [hstep, if_pos h2, if_pos h3, if_pos h4]) ihm
     ·
      have hmate : mate l i m = false := by unfold mate key; simp [hg, h2, h3, h4]
      rw [hmate, Bool.false_and, Bool.false_and]
      exact ev_at fun k => by rw [hstep, if_pos h2, if_pos h3, if_neg h4]
    ·
     have hmate : mate l i m = false := by unfold mate key; simp [hg, h2, h3]
     rw [hmate, Bool.false_and, Bool.false_and]
     exact ev_at fun k => by rw [hstep, if_pos h2, if_neg h3]
   ·
    have hmate : mate l i m = false := by unfold mate key; simp [hg, h2]
    rw [hmate, Bool.false_and, Bool.false_and]
    exact ev_at fun k => by rw [hstep, if_neg h2]
  ·
   rw [if_neg hg] at ihm
   have hmate : mate l i m = true := by unfold mate; simp [hg]
   rw [hmate, Bool.true_and]
   refine Ev.step (fun k => ?_) ihm
   simp only [spec_TreeOk.l2]
   rw [if_pos (by omega), if_pos (by omega), if_pos (by omega), if_pos (by omega), rd_el, rd_el, if_neg hg, w64s m (by omega)]
theorem l1_ev (l : List S41) (hl : l.length ≤ 200) (s : Int) (d : Nat) : ∀ i : Nat, i + d = l.length → Ev (fun k => spec_TreeOk.l1 k l s (i : Int)) (upTo (grp l) d i && decide (s ≤ 20000)) := by
 induction d with
 | zero =>
  intro i h
  simp only [upTo, Bool.true_and]
  refine ev_at fun k => ?_
  simp only [spec_TreeOk.l1]
  rw [if_neg (by omega)]
 | succ d ih =>
  intro i h
  simp only [upTo]
  by_cases hg : (el l i).f6 = 0
  ·
   have hgr : grp l i = true := by unfold grp; simp [hg]
   rw [hgr, Bool.true_and]
   refine Ev.step (fun k => ?_) (ih (i + 1) (by omega))
   simp only [spec_TreeOk.l1]
   rw [if_pos (by omega), if_pos (by omega), rd_el, if_pos hg, w64s i (by omega)]
  ·
   have hgr : grp l i = (upTo (mate l i) l.length 0 && decide (2 ≤ cnt l (el l i).f6 l.length)) := by unfold grp; rw [decide_eq_false hg, Bool.false_or]
   rw [hgr, Bool.and_assoc, Bool.and_assoc]
   refine Ev.step (fun k => ?_) (l2_ev l hl i (by omega) s _ (ih (i + 1) (by omega)) l.length 0 (by omega))
   simp only [spec_TreeOk.l1]
   rw [if_pos (by omega), if_pos (by omega), rd_el, if_neg hg]
   rfl
end Go.Proofs.YtnfihjebbhjgjaaDoor.TreeX
end

section
/- Trees: the search for a path in a list that is in order; a path's parent comes before it. -/
namespace Go.Proofs.YtnfihjebbhjgjaaDoor.TreeX
open Go Go.RowKit Go.Proofs.YtnfihjebbhjgjaaDoor.PSm Go.Proofs.YtnfihjebbhjgjaaDoorW.PrintWords Go.Proofs.YtnfihjebbhjgjaaDoorW.PrintMore Go.Proofs.YtnfihjebbhjgjaaDoor.Arith Go.Proofs.YtnfihjebbhjgjaaDoor.Lib Go.Proofs.YtnfihjebbhjgjaaDoor.Parts Go.Proofs.YtnfihjebbhjgjaaDoor.Paths Go.Proofs.YtnfihjebbhjgjaaDoor.Nodes Go.Proofs.YtnfihjebbhjgjaaDoor.Tree
set_option linter.unusedSimpArgs false
set_option linter.unusedVariables false

theorem tl (s : ByteArray) : s.toList = s.data.toList := Go.Lib.toList_data s
theorem path_ok {x : S41} (h : okN x = true) : pathOk x.f0 = true := by
 unfold okN nodeOk at h
 simp only [Bool.and_eq_true] at h
 exact h.1
theorem par_less {s : ByteArray} (h : pathOk s = true) (hne : (Pure.parent s).toList ≠ []) : Op.bytesLess (Pure.parent s).toList s.toList = true := by
 have e : names s = namesB s := by unfold names; rw [if_pos h]
 have hn : 0 < (namesB s).length := List.length_pos_iff.2 (namesB_ne s)
 have e1 : Pure.parent s = joinB ((namesB s).take ((namesB s).length - 1)) := by unfold Pure.parent; rw [e]
 obtain ⟨m, hm⟩ : ∃ m, (namesB s).length = m + 1 := ⟨(namesB s).length - 1, by omega⟩
 have e2 : (namesB s).length - 1 = m := by omega
 rw [e2] at e1
 have hj := Pure.take_join (namesB s) m (by omega)
 rw [← hm, List.take_length, joinB_names, ← e1] at hj
 by_cases h0 : m = 0
 ·
  subst h0
  exact absurd (by rw [e1, List.take_zero]; exact (toList_nil _).mpr rfl) hne
 ·
  rw [if_neg h0] at hj
  generalize Pure.parent s = p at hj hne ⊢
  generalize (namesB s)[m] = q at hj
  have hL : s.toList = p.toList ++ 47 :: q.toList := by rw [tl, tl, tl, hj]; simp
  rw [hL]
  exact Ord.prefixLess _ _ _
def Sorted (l : List S41) (n : Nat) : Prop := ∀ i j, i < j → j < n → Op.bytesLess (path l i) (path l j) = true
theorem sorted_of (l : List S41) : ∀ n, (∀ j, j < n → prevOk l j = true) → Sorted l n
 | 0, _ => fun i j _ h => by omega
 | n + 1, h => fun i j hij hj => by
  have ih := sorted_of l n (fun q hq => h q (by omega))
  by_cases e : j = n
  ·
   subst e
   have hp := h j (by omega)
   unfold prevOk at hp
   rw [decide_eq_false (show ¬ j = 0 by omega), Bool.false_or] at hp
   by_cases e2 : i = j - 1
   ·
    subst e2; exact hp
   ·
    exact Ord.trans (ih i (j - 1) (by omega) (by omega)) hp
  ·
   exact ih i j hij (by omega)
theorem cmp_eq (x : S41) (p : ByteArray) : impl_place.cmp x p = some (Go.Lib.compareBytes x.f0.toList p.toList) := by rw [tl, tl]; rfl
theorem place_l0 (l : List S41) (p : ByteArray) (hl : l.length ≤ 200) (hs : Sorted l l.length) (d : Nat) : ∀ i j : Nat, j ≤ i + d → i ≤ j → j ≤ l.length → (∀ q, q < i → Op.bytesLess (path l q) p.toList = true) → (∀ q, j ≤ q → q < l.length → Op.bytesLess (path l q) p.toList = false) →
 ∃ r : Nat, Ev (fun k => impl_place.l0 k l p (i : Int) (j : Int)) (r : Int) ∧ r ≤ l.length ∧ (∀ q, q < r → Op.bytesLess (path l q) p.toList = true) ∧ (∀ q, r ≤ q → q < l.length → Op.bytesLess (path l q) p.toList = false) := by
 induction d with
 | zero =>
  intro i j h0 h1 h2 h3 h4
  obtain rfl : i = j := by omega
  exact ⟨i, ev_at fun k => by simp only [impl_place.l0]; rw [if_neg (by omega)], h2, h3, h4⟩
 | succ d ih =>
  intro i j h0 h1 h2 h3 h4
  by_cases hij : i < j
  ·
   have eh : ((i : Int) + (j : Int)) / 2 = (((i + j) / 2 : Nat) : Int) := by omega
   obtain ⟨m, hm⟩ : ∃ m, m = (i + j) / 2 := ⟨_, rfl⟩
   rw [← hm] at eh
   have hstep : ∀ k, impl_place.l0 (k + 1) l p (i : Int) (j : Int) = (if Go.Lib.compareBytes (path l m) p.toList < 0 then impl_place.l0 k l p ((m + 1 : Nat) : Int) (j : Int) else impl_place.l0 k l p (i : Int) (m : Int)) := fun k => by
    simp only [impl_place.l0]
    rw [if_pos (by omega), if_pos (by omega), cmp_eq, Option.bind_some, eh, rd_el]
    rfl
   rcases Ord.cmp_spec (path l m) p.toList with ⟨c1, c2⟩ | hc
   ·
    obtain ⟨r, g1, g2, g3, g4⟩ := ih (m + 1) j (by omega) (by omega) h2 (fun q hq => by
     by_cases e : q = m
     ·
      subst e; exact c2
     ·
      exact Ord.trans (hs q m (by omega) (by omega)) c2) h4
    exact ⟨r, Ev.step (fun k => by rw [hstep, if_pos c1]) g1, g2, g3, g4⟩
   ·
    have c1 : ¬ Go.Lib.compareBytes (path l m) p.toList < 0 := by rcases hc with ⟨h, _⟩ | ⟨h, _⟩ <;> omega
    have c2 : Op.bytesLess (path l m) p.toList = false := by
     rcases hc with ⟨_, h⟩ | ⟨_, h⟩
     ·
      rw [h]; exact Ord.irr _
     ·
      exact Ord.asym h
    obtain ⟨r, g1, g2, g3, g4⟩ := ih i m (by omega) (by omega) (by omega) h3 (fun q hq hq2 => by
     by_cases e : q = m
     ·
      subst e; exact c2
     ·
      cases hb : Op.bytesLess (path l q) p.toList with
      | false => rfl
      | true => rw [Ord.trans (hs m q (by omega) hq2) hb] at c2; cases c2)
    exact ⟨r, Ev.step (fun k => by rw [hstep, if_neg c1]) g1, g2, g3, g4⟩
  ·
   obtain rfl : i = j := by omega
   exact ⟨i, ev_at fun k => by simp only [impl_place.l0]; rw [if_neg (by omega)], h2, h3, h4⟩
theorem place_ev (l : List S41) (p : ByteArray) (hl : l.length ≤ 200) (hs : Sorted l l.length) : ∃ (r : Nat) (b : Bool), Ev (fun k => impl_place.f k l p) ((r : Int), b) ∧ (b = true → idxI l p = (r : Int) ∧ r < l.length) ∧ (b = false → idxI l p = -1) := by
 obtain ⟨r, g1, g2, g3, g4⟩ := place_l0 l p hl hs l.length 0 l.length (by omega) (by omega) (by omega) (fun q hq => by omega) (fun q h1 h2 => by omega)
 have hat : ∀ j, j < l.length → path l j = p.toList → j = r := fun j hj e => by
  rcases Nat.lt_trichotomy j r with h | h | h
  ·
   have := g3 j h; rw [e, Ord.irr] at this; cases this
  ·
   exact h
  ·
   have h1 := hs r j h hj
   rw [e, g4 r (by omega) (by omega)] at h1; cases h1
 by_cases hr : r < l.length
 ·
  refine ⟨r, (Go.Lib.compareBytes (path l r) p.toList == 0), ?_, fun hb => ?_, fun hb => ?_⟩
  ·
   unfold impl_place.f
   refine Ev.bind g1 ?_
   rw [if_pos (by omega), if_pos (by omega), cmp_eq, Option.bind_some, rd_el]
   exact Ev.now _
  ·
   have e : path l r = p.toList := by
    have h0 : Go.Lib.compareBytes (path l r) p.toList = 0 := by simpa using hb
    rcases Ord.cmp_spec (path l r) p.toList with ⟨c, _⟩ | ⟨_, c⟩ | ⟨c, _⟩
    ·
     omega
    ·
     exact c
    ·
     omega
   rcases idx_spec l p with ⟨_, h2⟩ | ⟨j, h1, h2, h3⟩
   ·
    exact absurd e (h2 r hr)
   ·
    obtain rfl := hat j h1 h3
    exact ⟨h2, hr⟩
  ·
   rcases idx_spec l p with ⟨h1, _⟩ | ⟨j, h1, h2, h3⟩
   ·
    exact h1
   ·
    obtain rfl := hat j h1 h3
    have h0 : ¬ Go.Lib.compareBytes (path l j) p.toList = 0 := by simpa using hb
    rcases Ord.cmp_spec (path l j) p.toList with ⟨_, c⟩ | ⟨c, _⟩ | ⟨_, c⟩
    ·
     exact absurd h3 (Ord.ne c)
    ·
     exact absurd c h0
    ·
     exact absurd h3.symm (Ord.ne c)
 ·
  refine ⟨r, false, ?_, fun hb => (by cases hb), fun _ => ?_⟩
  ·
   unfold impl_place.f
   refine Ev.bind g1 ?_
   rw [if_neg (by omega)]
   exact Ev.now _
  ·
   rcases idx_spec l p with ⟨h1, _⟩ | ⟨j, h1, h2, h3⟩
   ·
    exact h1
   ·
    have := hat j h1 h3; omega
theorem isDir_ev (l : List S41) (p : ByteArray) (hl : l.length ≤ 200) (hs : Sorted l l.length) : Ev (fun k => impl_isDirIn.f k l p) (isDir l p) := by
 obtain ⟨r, b, g1, g2, g3⟩ := place_ev l p hl hs
 unfold impl_isDirIn.f
 refine Ev.bind g1 ?_
 unfold isDir
 by_cases hp : p.toList = []
 ·
  rw [if_pos hp, decide_eq_true hp]; exact Ev.now _
 ·
  rw [if_neg hp, decide_eq_false hp, Bool.false_or]
  cases b with
  | false =>
   rw [g3 rfl, if_neg (by simp)]
   exact Ev.now _
  | true =>
   obtain ⟨h1, h2⟩ := g2 rfl
   rw [h1, if_pos rfl]
   simp only []
   rw [if_pos (by omega), if_pos (by omega), rd_el, decide_eq_true (show (0 : Int) ≤ (r : Int) by omega), Bool.true_and, Int.toNat_natCast]
   exact Ev.now _
theorem el_take (l : List S41) (i j : Nat) (h : j < i) : el (l.take i) j = el l j := by
 unfold el
 rw [List.getD_eq_getElem?_getD, List.getD_eq_getElem?_getD, List.getElem?_take, if_pos h]
theorem sorted_take {l : List S41} {i : Nat} (hi : i ≤ l.length) (hs : Sorted l i) : Sorted (l.take i) (l.take i).length := fun a b h1 h2 => by
 rw [List.length_take] at h2
 have := hs a b h1 (by omega)
 unfold path at this ⊢
 rw [el_take l i a (by omega), el_take l i b (by omega)]
 exact this
theorem isDir_take {l : List S41} (hs : Sorted l l.length) {i : Nat} (hi : i < l.length) {p : ByteArray} (hp : p.toList ≠ [] → Op.bytesLess p.toList (path l i) = true) : isDir (l.take i) p = isDir l p := by
 unfold isDir
 by_cases h0 : p.toList = []
 ·
  rw [decide_eq_true h0]; rfl
 ·
  have hlen : (l.take i).length = i := by rw [List.length_take]; omega
  have hlt : ∀ j, j < l.length → path l j = p.toList → j < i := fun j hj e => by
   rcases Nat.lt_trichotomy j i with h | h | h
   ·
    exact h
   ·
    subst h; have := hp h0; rw [e, Ord.irr] at this; cases this
   ·
    have h1 := hs i j h hj
    rw [e] at h1
    have := Ord.trans h1 (hp h0)
    rw [Ord.irr] at this; cases this
  rw [decide_eq_false h0, Bool.false_or, Bool.false_or]
  rcases idx_spec l p with ⟨a1, a2⟩ | ⟨j, a1, a2, a3⟩
  ·
   rcases idx_spec (l.take i) p with ⟨b1, b2⟩ | ⟨j', b1, b2, b3⟩
   ·
    rw [a1, b1]; rfl
   ·
    rw [hlen] at b1
    rw [el_take l i j' b1] at b3
    exact absurd b3 (a2 j' (by omega))
  ·
   have hji := hlt j a1 a3
   rcases idx_spec (l.take i) p with ⟨b1, b2⟩ | ⟨j', b1, b2, b3⟩
   ·
    exact absurd (by rw [el_take l i j hji]; exact a3) (b2 j (by omega))
   ·
    rw [hlen] at b1
    have b3' := b3
    rw [el_take l i j' b1] at b3'
    have e : j' = j := by
     rcases Nat.lt_trichotomy j' j with h | h | h
     ·
      exact absurd (show path l j' = path l j from b3'.trans a3.symm) (Ord.ne (hs j' j h a1))
     ·
      exact h
     ·
      exact absurd (show path l j = path l j' from a3.trans b3'.symm) (Ord.ne (hs j j' h (by omega)))
    subst e
    rw [a2, b2, Int.toNat_natCast, el_take l i j' hji]
end Go.Proofs.YtnfihjebbhjgjaaDoor.TreeX
end

section
/- Trees: what the program's test comes to, and that the reference's comes to the same. -/
namespace Go.Proofs.YtnfihjebbhjgjaaDoor.TreeX
open Go Go.RowKit Go.Proofs.YtnfihjebbhjgjaaDoor.PSm Go.Proofs.YtnfihjebbhjgjaaDoorW.PrintWords Go.Proofs.YtnfihjebbhjgjaaDoorW.PrintMore Go.Proofs.YtnfihjebbhjgjaaDoor.Arith Go.Proofs.YtnfihjebbhjgjaaDoor.Lib Go.Proofs.YtnfihjebbhjgjaaDoor.Parts Go.Proofs.YtnfihjebbhjgjaaDoor.Paths Go.Proofs.YtnfihjebbhjgjaaDoor.Nodes Go.Proofs.YtnfihjebbhjgjaaDoor.Tree
set_option linter.unusedSimpArgs false
set_option linter.unusedVariables false

theorem last_succ (l : List S41) (g : Int) (i : Nat) : impl_TreeOk.last l g (i + 1) = if (el l i).f6 = g then some (el l i) else impl_TreeOk.last l g i := by
 rw [impl_TreeOk.last, elI]
def alikeB (l : List S41) (i : Nat) : Bool := match impl_TreeOk.last l (el l i).f6 i with
 | none => true
 | some f => key f (el l i)
theorem isAlike_eq (f x : S41) : impl_isAlike.f f.f0 f.f1 f.f2 f.f3 f.f4 f.f5 f.f6 x.f0 x.f1 x.f2 x.f3 x.f4 x.f5 x.f6 = some (key f x) := by
 unfold impl_isAlike.f key
 by_cases h2 : f.f2 = x.f2 <;> by_cases h3 : f.f3 = x.f3 <;> by_cases h4 : f.f4.toList = x.f4.toList <;> simp [h2, h3, h4]
theorem alike_eq (l : List S41) (i : Nat) : impl_TreeOk.alike l (el l i) i = some (alikeB l i) := by
 unfold impl_TreeOk.alike alikeB
 cases impl_TreeOk.last l (el l i).f6 i with
 | none => rfl
 | some f => exact isAlike_eq _ _
def testI (l : List S41) (i : Nat) : Bool := okN (el l i) && (prevOk l i && (isDir (l.take i) (par l i) && (decide ((el l i).f6 = 0) || alikeB l i)))
theorem small_loop (l : List S41) (hl : l.length ≤ 200) (hz : ∀ j, j < l.length → (el l j).f4.size ≤ 20000) (d : Nat) : ∀ i : Nat, i + d = l.length → Ev (fun k => impl_areSmall.l0 k l (sumTo l i : Int) l (l.length : Int) (i : Int)) (decide ((sumTo l l.length : Int) ≤ 20000)) := by
 induction d with
 | zero =>
  intro i h
  obtain rfl : i = l.length := by omega
  refine ev_at fun k => ?_
  simp only [impl_areSmall.l0]
  rw [if_neg (by omega), if_pos (by omega)]
 | succ d ih =>
  intro i h
  have hs := sum_le l i (fun j hj => hz j (by omega))
  have hi := hz i (by omega)
  refine Ev.step (fun k => ?_) (ih (i + 1) (by omega))
  simp only [impl_areSmall.l0, sumTo]
  rw [if_pos (by omega), if_pos (by omega), if_pos (by omega), rd_el, w64s i (by omega), w64 (by omega) (by omega)]
  rfl
theorem small_ev (l : List S41) (hl : l.length ≤ 200) (hz : ∀ j, j < l.length → (el l j).f4.size ≤ 20000) : Ev (fun k => impl_areSmall.f k l) (decide ((sumTo l l.length : Int) ≤ 20000)) := by
 unfold impl_areSmall.f
 exact small_loop l hl hz l.length 0 (by omega)
theorem impl_l0 (l : List S41) (hl : l.length ≤ 200) (d : Nat) : ∀ i : Nat, i + d = l.length → (∀ j, j < i → okN (el l j) = true ∧ prevOk l j = true) →
 Ev (fun k => impl_TreeOk.l0 k l i) (upTo (testI l) d i && (!impl_TreeOk.lone l && decide ((sumTo l l.length : Int) ≤ 20000))) := by
 induction d with
 | zero =>
  intro i h hA
  obtain rfl : i = l.length := by omega
  simp only [upTo, Bool.true_and]
  cases hL : impl_TreeOk.lone l with
  | true =>
   refine ev_at fun k => ?_
   simp only [impl_TreeOk.l0]
   rw [if_neg (by omega), if_pos hL]
   rfl
  | false =>
   rw [Bool.not_false, Bool.true_and]
   refine Ev.step (fun k => ?_) (small_ev l hl (fun j hj => data_le (hA j hj).1))
   simp only [impl_TreeOk.l0]
   rw [if_neg (by omega), hL, if_neg (by simp)]
 | succ d ih =>
  intro i h hA
  have hi : i < l.length := by omega
  simp only [upTo]
  refine Ev.step (f := fun k => (impl_NodeOk.f k (el l i).f0 (el l i).f1 (el l i).f2 (el l i).f3 (el l i).f4 (el l i).f5 (el l i).f6).bind fun b => (if b = true then (if prevOk l i = true then ((impl_ParentOf.f k (el l i).f0).bind fun p => ((impl_isDirIn.f k (l.take i) p).bind fun dd => (if dd = true then (if (el l i).f6 = 0 then impl_TreeOk.l0 k l (i + 1) else ((some (alikeB l i)).bind fun a => (if a = true then impl_TreeOk.l0 k l (i + 1) else some false))) else some false))) else some false) else some false)) (fun k => by simp only [impl_TreeOk.l0, elI, prev_eq, alike_eq]; rw [if_pos hi]) ?_
  refine Ev.bind (impl_node _ _ _ _ _ _ _) ?_
  have e : nodeOk (el l i).f0 (el l i).f1 (el l i).f2 (el l i).f3 (el l i).f4 (el l i).f5 (el l i).f6 = okN (el l i) := rfl
  rw [e]
  cases hok : okN (el l i) with
  | false =>
   have ht : testI l i = false := by unfold testI; rw [hok]; rfl
   rw [ht]
   exact Ev.now _
  | true =>
   cases hpr : prevOk l i with
   | false =>
    have ht : testI l i = false := by unfold testI; rw [hok, hpr]; rfl
    rw [ht]
    exact Ev.now _
   | true =>
    have ht : testI l i = (isDir (l.take i) (par l i) && (decide ((el l i).f6 = 0) || alikeB l i)) := by unfold testI; rw [hok, hpr]; rfl
    have ihi := ih (i + 1) (by omega) (fun j hj => by
     by_cases ej : j = i
     ·
      subst ej; exact ⟨hok, hpr⟩
     ·
      exact hA j (by omega))
    simp only [↓reduceIte]
    rw [ht]
    refine Ev.bind (Pure.impl_parent _) ?_
    refine Ev.bind (isDir_ev (l.take i) (par l i) (by rw [List.length_take]; omega) (sorted_take (by omega) (sorted_of l i (fun j hj => (hA j hj).2)))) ?_
    cases hd : isDir (l.take i) (par l i) with
    | false => exact Ev.now _
    | true =>
     simp only [↓reduceIte]
     rw [Bool.true_and]
     by_cases h0 : (el l i).f6 = 0
     ·
      simp only [if_pos h0]; rw [decide_eq_true h0, Bool.true_or, Bool.true_and]; exact ihi
     ·
      simp only [if_neg h0]
      rw [decide_eq_false h0, Bool.false_or]
      cases ha : alikeB l i with
      | false => exact Ev.now _
      | true => rw [Bool.true_and]; exact ihi
theorem impl_ev (l : List S41) (hl : l.length ≤ 200) : Ev (fun k => impl_TreeOk.f k l) (upTo (testI l) l.length 0 && (!impl_TreeOk.lone l && decide ((sumTo l l.length : Int) ≤ 20000))) := by
 unfold impl_TreeOk.f
 simp only [if_neg (show ¬ (l.length : Int) > 200 by omega)]
 exact impl_l0 l hl l.length 0 (by omega) (fun j hj => by omega)
theorem key_iff (x y : S41) : key x y = true ↔ x.f2 = y.f2 ∧ x.f3 = y.f3 ∧ x.f4.toList = y.f4.toList := by unfold key; simp
theorem last_mem (l : List S41) (g : Int) (f : S41) : ∀ m, impl_TreeOk.last l g m = some f → ∃ k, k < m ∧ f = el l k ∧ (el l k).f6 = g
 | 0, h => by cases h
 | m + 1, h => by
  rw [last_succ] at h
  by_cases e : (el l m).f6 = g
  ·
   rw [if_pos e] at h
   exact ⟨m, by omega, (Option.some.inj h).symm, e⟩
  ·
   rw [if_neg e] at h
   obtain ⟨k, h1, h2⟩ := last_mem l g f m h
   exact ⟨k, by omega, h2⟩
theorem last_some (l : List S41) (g : Int) (k : Nat) (hk : (el l k).f6 = g) : ∀ m, k < m → ∃ f, impl_TreeOk.last l g m = some f
 | 0, h => by omega
 | m + 1, h => by
  rw [last_succ]
  by_cases e : (el l m).f6 = g
  ·
   exact ⟨_, if_pos e⟩
  ·
   rw [if_neg e]
   have : k ≠ m := fun e2 => e (e2 ▸ hk)
   exact last_some l g k hk m (by omega)
theorem chain (l : List S41) (g : Int) (hg : g ≠ 0) (H : ∀ j, j < l.length → (el l j).f6 = 0 ∨ alikeB l j = true) : ∀ m, m ≤ l.length → ∀ f, impl_TreeOk.last l g m = some f → ∀ k, k < m → (el l k).f6 = g → key (el l k) f = true
 | 0, _, _, _, k, h, _ => by omega
 | m + 1, hm, f, hf, k, hk, e => by
  rw [last_succ] at hf
  by_cases em : (el l m).f6 = g
  ·
   rw [if_pos em] at hf
   obtain rfl := Option.some.inj hf
   by_cases ek : k = m
   ·
    subst ek; rw [key_iff]; exact ⟨rfl, rfl, rfl⟩
   ·
    obtain ⟨f', hf'⟩ := last_some l g k e m (by omega)
    have h1 := chain l g hg H m (by omega) f' hf' k (by omega) e
    have h2 : alikeB l m = true := (H m (by omega)).resolve_left (by rw [em]; exact hg)
    unfold alikeB at h2
    rw [em, hf'] at h2
    rw [key_iff] at h1 h2 ⊢
    exact ⟨h1.1.trans h2.1, h1.2.1.trans h2.2.1, h1.2.2.trans h2.2.2⟩
  ·
   rw [if_neg em] at hf
   have : k ≠ m := fun e2 => em (e2 ▸ e)
   exact chain l g hg H m (by omega) f hf k (by omega) e
theorem lone_iff (l : List S41) : impl_TreeOk.lone l = false ↔ ∀ j, j < l.length → (el l j).f6 ≠ 0 → 2 ≤ cnt l (el l j).f6 l.length := by
 unfold impl_TreeOk.lone
 rw [List.any_eq_false]
 simp only [elI, List.mem_range, decide_eq_true_eq]
 constructor
 ·
  intro h j hj h0
  have := h j hj
  show 2 ≤ impl_TreeOk.cnt l (el l j).f6 l.length
  omega
 ·
  rintro h j hj ⟨h1, h2⟩
  have : 2 ≤ impl_TreeOk.cnt l (el l j).f6 l.length := h j hj h1
  omega
theorem groups (l : List S41) : ((∀ j, j < l.length → (el l j).f6 = 0 ∨ alikeB l j = true) ∧ impl_TreeOk.lone l = false) ↔ ∀ j, j < l.length → grp l j = true := by
 rw [lone_iff]
 constructor
 ·
  rintro ⟨H, L⟩ j hj
  unfold grp
  by_cases h0 : (el l j).f6 = 0
  ·
   rw [decide_eq_true h0]; rfl
  ·
   rw [decide_eq_false h0, Bool.false_or, Bool.and_eq_true, decide_eq_true_eq, upTo_iff]
   refine ⟨fun k _ hk => ?_, L j hj h0⟩
   unfold mate
   by_cases e : (el l k).f6 = (el l j).f6
   ·
    rw [decide_eq_true e, Bool.not_true, Bool.false_or]
    obtain ⟨f, hf⟩ := last_some l _ j rfl l.length hj
    have h1 := chain l _ h0 H l.length (Nat.le_refl _) f hf k (by omega) e
    have h2 := chain l _ h0 H l.length (Nat.le_refl _) f hf j hj rfl
    rw [key_iff] at h1 h2 ⊢
    exact ⟨h1.1.trans h2.1.symm, h1.2.1.trans h2.2.1.symm, h1.2.2.trans h2.2.2.symm⟩
   ·
    rw [decide_eq_false e]; rfl
 ·
  intro G
  have hg : ∀ j, j < l.length → (el l j).f6 ≠ 0 → (∀ k, k < l.length → mate l j k = true) ∧ 2 ≤ cnt l (el l j).f6 l.length := fun j hj h0 => by
   have := G j hj
   unfold grp at this
   rw [decide_eq_false h0, Bool.false_or, Bool.and_eq_true, decide_eq_true_eq, upTo_iff] at this
   exact ⟨fun k hk => this.1 k (by omega) (by omega), this.2⟩
  refine ⟨fun j hj => ?_, fun j hj h0 => (hg j hj h0).2⟩
  by_cases h0 : (el l j).f6 = 0
  ·
   exact .inl h0
  ·
   refine .inr ?_
   unfold alikeB
   cases hf : impl_TreeOk.last l (el l j).f6 j with
   | none => rfl
   | some f =>
    obtain ⟨k, h1, rfl, h3⟩ := last_mem l _ f j hf
    have := (hg j hj h0).1 k (by omega)
    unfold mate at this
    rw [decide_eq_true h3, Bool.not_true, Bool.false_or] at this
    exact this
theorem same (l : List S41) (S : Bool) : (upTo (testI l) l.length 0 && (!impl_TreeOk.lone l && S)) = (upTo (testS l) l.length 0 && (upTo (grp l) l.length 0 && S)) := by
 rw [Bool.eq_iff_iff]
 simp only [Bool.and_eq_true, Bool.not_eq_true', upTo_iff]
 have hgr := groups l
 constructor
 ·
  rintro ⟨h1, h2, h3⟩
  have hp : ∀ j, j < l.length → okN (el l j) = true ∧ prevOk l j = true ∧ isDir (l.take j) (par l j) = true ∧ ((el l j).f6 = 0 ∨ alikeB l j = true) := fun j hj => by
   have := h1 j (by omega) (by omega)
   unfold testI at this
   simp only [Bool.and_eq_true, Bool.or_eq_true, decide_eq_true_eq] at this
   exact this
  have hs := sorted_of l l.length (fun j hj => (hp j hj).2.1)
  refine ⟨fun j _ hj => ?_, fun j _ hj => hgr.mp ⟨fun j hj => (hp j hj).2.2.2, h2⟩ j (by omega), h3⟩
  obtain ⟨a, b, c, _⟩ := hp j (by omega)
  rw [isDir_take (p := par l j) hs (by omega) (fun h => par_less (path_ok a) h)] at c
  unfold testS
  rw [a, b, c]; rfl
 ·
  rintro ⟨h1, h2, h3⟩
  have hp : ∀ j, j < l.length → okN (el l j) = true ∧ prevOk l j = true ∧ isDir l (par l j) = true := fun j hj => by
   have := h1 j (by omega) (by omega)
   unfold testS at this
   simp only [Bool.and_eq_true] at this
   exact this
  have hs := sorted_of l l.length (fun j hj => (hp j hj).2.1)
  obtain ⟨g1, g2⟩ := hgr.mpr (fun j hj => h2 j (by omega) (by omega))
  refine ⟨fun j _ hj => ?_, g2, h3⟩
  obtain ⟨a, b, c⟩ := hp j (by omega)
  rw [← isDir_take (p := par l j) hs (by omega) (fun h => par_less (path_ok a) h)] at c
  unfold testI
  rw [a, b, c]
  rcases g1 j (by omega) with h | h
  ·
   rw [decide_eq_true h]; rfl
  ·
   rw [h]; simp
end Go.Proofs.YtnfihjebbhjgjaaDoor.TreeX
end

section
/- Nodes handed in: copied into the program's own type they are equal again; their size is small or the law says true at once. No condition but the length. -/
namespace Go.Proofs.YtnfihjebbhjgjaaDoor.TreeRec
open Go Go.RowKit Go.Proofs.YtnfihjebbhjgjaaDoor.PSm Go.Proofs.YtnfihjebbhjgjaaDoorW.PrintWords Go.Proofs.YtnfihjebbhjgjaaDoorW.PrintMore Go.Proofs.YtnfihjebbhjgjaaDoor.Arith Go.Proofs.YtnfihjebbhjgjaaDoor.Lib
set_option linter.unusedSimpArgs false
set_option linter.unusedVariables false

theorem getD_at {α : Type} (z : α) (l : List α) (i : Nat) (h : i < l.length) : l.getD i z = l[i] := by
 simp [List.getD_eq_getElem?_getD, List.getElem?_eq_getElem h]
def nd (x : S38) : S41 := ⟨x.f0, x.f1, x.f2, x.f3, x.f4, x.f5, x.f6⟩
def nds (l : List S38) : List S41 := l.map nd
theorem nds_length (l : List S38) : (nds l).length = l.length := by simp [nds]
theorem rdL (l : List S38) (i : Nat) (h : i < l.length) : rd_T38 l (i : Int) = l[i] := by
 unfold rd_T38; rw [Int.toNat_natCast]; exact getD_at _ _ _ h
theorem to_loop (l : List S38) (hl : l.length ≤ 2097152) (d : Nat) : ∀ (i : Nat) (x : List S41), i + d = l.length → x.length = l.length → x.take i = (nds l).take i → Ev (fun k => laws_toNodeS.l0 k l x i) (nds l) := by
 induction d with
 | zero =>
  intro i x h hx ht
  refine ev_at fun k => ?_
  simp only [laws_toNodeS.l0]
  rw [if_neg (by omega)]
  rw [List.take_of_length_le (by omega), List.take_of_length_le (by rw [nds_length]; omega)] at ht
  rw [ht]
 | succ d ih =>
  intro i x h hx ht
  have hi : i < l.length := by omega
  refine Ev.step (f := fun k => laws_toNodeS.l0 k l (x.set i (nd l[i])) ((i + 1 : Nat) : Int)) (fun k => ?_) (ih (i + 1) (x.set i (nd l[i])) (by omega) (by rw [List.length_set]; exact hx) ?_)
  ·
   simp only [laws_toNodeS.l0, laws_toNode.f, Option.bind_some]
   rw [if_pos (by omega), if_pos (by omega), if_pos (by omega), w64s i (by omega), rdL l i hi, Int.toNat_natCast]
   rfl
  ·
   have h1 : i < (x.set i (nd l[i])).length := by rw [List.length_set]; omega
   have h2 : i < (nds l).length := by rw [nds_length]; exact hi
   rw [List.take_succ_eq_append_getElem h1, List.getElem_set_self, List.take_set_of_le (Nat.le_refl i), ht, List.take_succ_eq_append_getElem h2]
   simp [nds]
theorem to_ev (l : List S38) (hl : l.length ≤ 2097152) : Ev (fun k => laws_toNodeS.f k l) (nds l) := by
 unfold laws_toNodeS.f
 simp only [if_pos (show (0 : Int) ≤ (l.length : Int) by omega), Int.toNat_natCast, if_pos (show l.length ≤ 3518437208883 by omega)]
 exact to_loop l hl l.length 0 _ (by omega) (by simp) (by simp)
theorem eq_loop (l : List S41) (hl : l.length ≤ 2097152) (d : Nat) : ∀ i : Nat, i + d = l.length → Ev (fun k => laws_eqNodeS.l0 k l l i) true := by
 induction d with
 | zero =>
  intro i h
  refine ev_at fun k => ?_
  simp only [laws_eqNodeS.l0]
  rw [if_neg (by omega)]
 | succ d ih =>
  intro i h
  refine Ev.step (f := fun k => laws_eqNodeS.l0 k l l ((i + 1 : Nat) : Int)) (fun k => ?_) (ih (i + 1) (by omega))
  simp only [laws_eqNodeS.l0, laws_eqNode.f, if_true, Option.bind_some]
  rw [if_pos (by omega), if_pos (by omega), w64s i (by omega)]
  simp
  omega
theorem eq_ev (l : List S41) (hl : l.length ≤ 2097152) : Ev (fun k => laws_eqNodeS.f k l l) true := by
 unfold laws_eqNodeS.f
 simp only [if_true]
 exact eq_loop l hl l.length 0 (by omega)
end Go.Proofs.YtnfihjebbhjgjaaDoor.TreeRec
end

section
/- Trees: what the reference's test comes to; the laws on TreeOk and Find return true at every argument: their plain statements and their walks. No condition. -/
namespace Go.Proofs.YtnfihjebbhjgjaaDoor.TreeX
open Go Go.RowKit Go.Proofs.YtnfihjebbhjgjaaDoor.PSm Go.Proofs.YtnfihjebbhjgjaaDoorW.PrintWords Go.Proofs.YtnfihjebbhjgjaaDoorW.PrintMore Go.Proofs.YtnfihjebbhjgjaaDoor.Arith Go.Proofs.YtnfihjebbhjgjaaDoor.Lib Go.Proofs.YtnfihjebbhjgjaaDoor.Parts Go.Proofs.YtnfihjebbhjgjaaDoor.Paths Go.Proofs.YtnfihjebbhjgjaaDoor.Nodes Go.Proofs.YtnfihjebbhjgjaaDoor.Tree Go.Proofs.YtnfihjebbhjgjaaDoor.TreeRec
set_option linter.unusedSimpArgs false
set_option linter.unusedVariables false

theorem j1_ev (l : List S41) (hl : l.length ≤ 200) (i : Nat) (hi : i < l.length) (s : Int) (R : Bool) (b : Bool) (hR : b = false → Ev (fun k => spec_TreeOk.l0 k l (wrap64 (s + ((el l i).f4.size : Int))) ((i + 1 : Nat) : Int)) R) :
 Ev (fun k => spec_TreeOk.j1 k l s (i : Int) b (el l i).f0 (el l i).f1 (el l i).f2 (el l i).f3 (el l i).f4 (el l i).f5 (el l i).f6) (!b && (isDir l (par l i) && R)) := by
 cases b with
 | true => exact ev_at fun k => by simp only [spec_TreeOk.j1]; rfl
 | false =>
  have hR := hR rfl
  rw [Bool.not_false, Bool.true_and]
  refine Ev.step (f := fun k => (spec_ParentOf.f k (el l i).f0).bind fun p => ((spec_l10At.f k l p).bind fun t => (if p.toList = ([] : List UInt8) then spec_TreeOk.l0 k l (wrap64 (s + ((el l i).f4.size : Int))) ((i + 1 : Nat) : Int) else (if t < 0 then some false else (if 0 ≤ t then (if t < (l.length : Int) then (if (rd_T41 l t).f1 = 0 then spec_TreeOk.l0 k l (wrap64 (s + ((el l i).f4.size : Int))) ((i + 1 : Nat) : Int) else some false) else none) else none))))) (fun k => by simp only [spec_TreeOk.j1, w64s i (by omega)]; rfl) ?_
  refine Ev.bind (Pure.spec_parent _) (Ev.bind (l10_ev l _ (by omega)) ?_)
  show Ev _ (isDir l (par l i) && R)
  unfold isDir par
  by_cases hp : (Pure.parent (el l i).f0).toList = []
  ·
   simp only [if_pos hp]
   rw [decide_eq_true hp, Bool.true_or, Bool.true_and]; exact hR
  ·
   simp only [if_neg hp]
   rw [decide_eq_false hp, Bool.false_or]
   rcases idx_spec l (Pure.parent (el l i).f0) with ⟨h1, _⟩ | ⟨j, h1, h2, _⟩
   ·
    rw [h1]
    exact Ev.now _
   ·
    rw [h2]
    simp only [if_neg (show ¬ (j : Int) < 0 by omega), if_pos (show (0 : Int) ≤ (j : Int) by omega), if_pos (show (j : Int) < (l.length : Int) by omega), rd_el]
    rw [decide_eq_true (show (0 : Int) ≤ (j : Int) by omega), Bool.true_and, Int.toNat_natCast]
    by_cases hk : (el l j).f1 = 0
    ·
     simp only [if_pos hk]; rw [decide_eq_true hk, Bool.true_and]; exact hR
    ·
     simp only [if_neg hk]; rw [decide_eq_false hk, Bool.false_and]; exact Ev.now _
theorem spec_l0 (l : List S41) (hl : l.length ≤ 200) (d : Nat) : ∀ i : Nat, i + d = l.length → sumTo l i ≤ 20000 * i →
 Ev (fun k => spec_TreeOk.l0 k l (sumTo l i : Int) (i : Int)) (upTo (testS l) d i && (upTo (grp l) l.length 0 && decide ((sumTo l l.length : Int) ≤ 20000))) := by
 induction d with
 | zero =>
  intro i h hs
  obtain rfl : i = l.length := by omega
  simp only [upTo, Bool.true_and]
  refine Ev.step (fun k => ?_) (l1_ev l hl (sumTo l l.length : Int) l.length 0 (by omega))
  simp only [spec_TreeOk.l0]
  rw [if_neg (by omega)]
  rfl
 | succ d ih =>
  intro i h hs
  have hi : i < l.length := by omega
  simp only [upTo]
  have hstep : ∀ k, spec_TreeOk.l0 (k + 1) l (sumTo l i : Int) (i : Int) = (spec_NodeOk.f k (el l i).f0 (el l i).f1 (el l i).f2 (el l i).f3 (el l i).f4 (el l i).f5 (el l i).f6).bind fun t => (if t = true then spec_TreeOk.j1 k l (sumTo l i : Int) (i : Int) (!prevOk l i) (el l i).f0 (el l i).f1 (el l i).f2 (el l i).f3 (el l i).f4 (el l i).f5 (el l i).f6 else spec_TreeOk.j1 k l (sumTo l i : Int) (i : Int) true (el l i).f0 (el l i).f1 (el l i).f2 (el l i).f3 (el l i).f4 (el l i).f5 (el l i).f6) := fun k => by
   simp only [spec_TreeOk.l0, rd_el, if_pos (show (i : Int) < (l.length : Int) by omega), if_pos (show (0 : Int) ≤ (i : Int) by omega)]
   by_cases h0 : i = 0
   ·
    subst h0
    have e : prevOk l 0 = true := rfl
    simp only [if_neg (show ¬ ((0 : Nat) : Int) > 0 by omega), e, Bool.not_true]
   ·
    have e : wrap64 ((i : Int) - 1) = ((i - 1 : Nat) : Int) := by rw [w64 (by omega) (by omega)]; omega
    have e2 : prevOk l i = Op.bytesLess (el l (i - 1)).f0.toList (el l i).f0.toList := by unfold prevOk path; rw [decide_eq_false h0, Bool.false_or]
    simp only [if_pos (show (i : Int) > 0 by omega), e, if_pos (show (0 : Int) ≤ ((i - 1 : Nat) : Int) by omega), if_pos (show ((i - 1 : Nat) : Int) < (l.length : Int) by omega), rd_el, e2]
  refine Ev.step hstep ?_
  refine Ev.bind (spec_node _ _ _ _ _ _ _) ?_
  have e : nodeOk (el l i).f0 (el l i).f1 (el l i).f2 (el l i).f3 (el l i).f4 (el l i).f5 (el l i).f6 = okN (el l i) := rfl
  rw [e]
  cases hok : okN (el l i) with
  | false =>
   have ht : testS l i = false := by unfold testS; rw [hok]; rfl
   rw [ht]
   exact j1_ev l hl i hi _ false true (fun h => by cases h)
  | true =>
   have hz := data_le hok
   have ht : testS l i = (prevOk l i && isDir l (par l i)) := by unfold testS; rw [hok]; rfl
   have ihi := ih (i + 1) (by omega) (by simp only [sumTo]; omega)
   simp only [↓reduceIte]
   rw [ht, Bool.and_assoc, Bool.and_assoc]
   have := j1_ev l hl i hi (sumTo l i : Int) _ (!prevOk l i) (fun _ => by
    rw [w64 (by omega) (by omega)]
    exact ihi)
   rw [Bool.not_not] at this
   exact this
theorem spec_ev (l : List S41) (hl : l.length ≤ 200) : Ev (fun k => spec_TreeOk.f k l) (upTo (testS l) l.length 0 && (upTo (grp l) l.length 0 && decide ((sumTo l l.length : Int) ≤ 20000))) := by
 unfold spec_TreeOk.f
 simp only [if_neg (show ¬ (l.length : Int) > 200 by omega)]
 exact spec_l0 l hl l.length 0 (by omega) (by simp [sumTo])
def tree (l : List S41) : Bool := decide (l.length ≤ 200) && (upTo (testS l) l.length 0 && (upTo (grp l) l.length 0 && decide ((sumTo l l.length : Int) ≤ 20000)))
theorem tree_spec (l : List S41) : Ev (fun k => spec_TreeOk.f k l) (tree l) := by
 unfold tree
 by_cases h : l.length ≤ 200
 ·
  rw [decide_eq_true h, Bool.true_and]; exact spec_ev l h
 ·
  rw [decide_eq_false h]
  unfold spec_TreeOk.f
  simp only [if_pos (show (l.length : Int) > 200 by omega)]
  exact Ev.now _
theorem tree_impl (l : List S41) : Ev (fun k => impl_TreeOk.f k l) (tree l) := by
 unfold tree
 by_cases h : l.length ≤ 200
 ·
  rw [decide_eq_true h, Bool.true_and, ← same]; exact impl_ev l h
 ·
  rw [decide_eq_false h]
  unfold impl_TreeOk.f
  simp only [if_pos (show (l.length : Int) > 200 by omega)]
  exact Ev.now _
end Go.Proofs.YtnfihjebbhjgjaaDoor.TreeX
end
end

section
/- The law on SameGroups returns true at every argument: its plain statement and its walk. No condition. -/
namespace Go.Proofs.YtnfihjebbhjgjaaDoor.SameX
open Go Go.RowKit Go.Proofs.YtnfihjebbhjgjaaDoor.PSm Go.Proofs.YtnfihjebbhjgjaaDoorW.PrintWords Go.Proofs.YtnfihjebbhjgjaaDoorW.PrintMore Go.Proofs.YtnfihjebbhjgjaaDoor.Arith Go.Proofs.YtnfihjebbhjgjaaDoor.Lib Go.Proofs.YtnfihjebbhjgjaaDoor.Parts Go.Proofs.YtnfihjebbhjgjaaDoor.Paths Go.Proofs.YtnfihjebbhjgjaaDoor.Nodes Go.Proofs.YtnfihjebbhjgjaaDoor.Tree Go.Proofs.YtnfihjebbhjgjaaDoor.TreeRec Go.Proofs.YtnfihjebbhjgjaaDoor.TreeX
set_option linter.unusedSimpArgs false
set_option linter.unusedVariables false

def relI (l : List S41) (i m : Nat) : Bool := decide ((el l i).f6 > 0) && ((el l i).f6 == (el l m).f6)
def okI (a b : List S41) (i m : Nat) : Bool := !(relI a i m != relI b i m)
def relS (l : List S41) (i m : Nat) : Bool := (el l i).f6 != 0 && ((el l i).f6 == (el l m).f6)
def okS (a b : List S41) (i m : Nat) : Bool := !(relS a i m != relS b i m)
def neqE (a b : List S41) (i : Nat) : Bool := spec_SameGroups.neq (el a i) (el b i)
def oneI (a b : List S41) (i : Nat) : Bool := upTo (okI a b i) i 0 && !neqE a b i
def oneS (a b : List S41) (i : Nat) : Bool := !neqE a b i && upTo (okS a b i) a.length 0
theorem inn_eq (a b : List S41) (i : Nat) : ∀ d m, spec_SameGroups.inn a b i d m = upTo (okS a b i) d m
 | 0, m => rfl
 | d + 1, m => by
  rw [spec_SameGroups.inn, upTo, inn_eq a b i d (m + 1)]
  unfold okS relS spec_SameGroups.rel
  simp only [rd_el]
theorem out_eq (a b : List S41) : ∀ d i, spec_SameGroups.out a b d i = upTo (oneS a b) d i
 | 0, i => rfl
 | d + 1, i => by
  rw [spec_SameGroups.out, upTo, out_eq a b d (i + 1), inn_eq]
  unfold oneS neqE
  rw [rd_el, rd_el, Bool.and_assoc]
theorem innI_eq (a b : List S41) (i : Nat) : ∀ d m, impl_SameGroups.inn a b i d m = upTo (okI a b i) d m
 | 0, m => rfl
 | d + 1, m => by
  rw [impl_SameGroups.inn, upTo, innI_eq a b i d (m + 1)]
  unfold okI relI impl_SameGroups.rel
  simp only [rd_el]
theorem outI_eq (a b : List S41) : ∀ d i, impl_SameGroups.out a b d i = upTo (oneI a b) d i
 | 0, i => rfl
 | d + 1, i => by
  rw [impl_SameGroups.out, upTo, outI_eq a b d (i + 1), innI_eq]
  unfold oneI neqE
  rw [rd_el, rd_el, Bool.and_assoc]
  rfl
theorem grp_nonneg {x : S41} (h : okN x = true) : 0 ≤ x.f6 := by
 have h4 : kinds x.f1 x.f2 x.f4 x.f5 x.f6 = true := by
  unfold okN nodeOk at h
  simp only [Bool.and_eq_true] at h
  exact h.2.2.2
 unfold kinds at h4
 split at h4
 ·
  simp only [Bool.and_eq_true, beq_iff_eq] at h4; omega
 ·
  split at h4
  ·
   simp only [Bool.and_eq_true, decide_eq_true_eq] at h4; omega
  ·
   split at h4
   ·
    simp only [Bool.and_eq_true, decide_eq_true_eq] at h4; omega
   ·
    cases h4
theorem cnt_one (l : List S41) (g : Int) (j : Nat) : ∀ i, (∀ m, m < i → (el l m).f6 = g → m = j) → cnt l g i ≤ 1 ∧ (i ≤ j → cnt l g i = 0)
 | 0, _ => ⟨by show 0 ≤ 1; omega, fun _ => rfl⟩
 | i + 1, h => by
  obtain ⟨h1, h2⟩ := cnt_one l g j i (fun m hm e => h m (by omega) e)
  rw [cnt_succ]
  by_cases e : (el l i).f6 = g
  ·
   rw [if_pos e]
   have hij := h i (by omega) e
   have := h2 (by omega)
   exact ⟨by omega, fun _ => by omega⟩
  ·
   rw [if_neg e]
   exact ⟨h1, fun hij => h2 (by omega)⟩
theorem tree_facts {l : List S41} (h : tree l = true) : l.length ≤ 200 ∧ (∀ j, j < l.length → 0 ≤ (el l j).f6) ∧ ∀ j, j < l.length → (el l j).f6 ≠ 0 → ∃ m, m < l.length ∧ m ≠ j ∧ (el l m).f6 = (el l j).f6 := by
 unfold tree at h
 simp only [Bool.and_eq_true, decide_eq_true_eq, upTo_iff] at h
 obtain ⟨h1, h2, h3, _⟩ := h
 refine ⟨h1, fun j hj => ?_, fun j hj h0 => ?_⟩
 ·
  have := h2 j (by omega) (by omega)
  unfold testS at this
  simp only [Bool.and_eq_true] at this
  exact grp_nonneg this.1
 ·
  have := h3 j (by omega) (by omega)
  unfold grp at this
  rw [decide_eq_false h0, Bool.false_or, Bool.and_eq_true, decide_eq_true_eq] at this
  refine Classical.byContradiction fun hne => ?_
  have := (cnt_one l (el l j).f6 j l.length (fun m hm e => Classical.byContradiction fun hmj => hne ⟨m, hm, hmj, e⟩)).1
  omega
theorem relS_iff (l : List S41) (i m : Nat) : relS l i m = true ↔ (el l i).f6 ≠ 0 ∧ (el l i).f6 = (el l m).f6 := by unfold relS; simp
theorem relI_eq {l : List S41} {i : Nat} (h : 0 ≤ (el l i).f6) (m : Nat) : relI l i m = relS l i m := by
 unfold relI relS
 congr 1
 rw [Bool.eq_iff_iff]
 simp
 omega
theorem okS_iff (a b : List S41) (i m : Nat) : okS a b i m = true ↔ (relS a i m = true ↔ relS b i m = true) := by
 unfold okS
 cases relS a i m <;> cases relS b i m <;> simp
theorem rel_symm (l : List S41) (i m : Nat) (h : relS l i m = true) : relS l m i = true := by
 rw [relS_iff] at h ⊢
 exact ⟨by rw [← h.2]; exact h.1, h.2.symm⟩
theorem half {a b : List S41} (hab : a.length = b.length) (ta : ∀ j, j < a.length → (el a j).f6 ≠ 0 → ∃ m, m < a.length ∧ m ≠ j ∧ (el a m).f6 = (el a j).f6) (H : ∀ i, i < a.length → ∀ m, m < i → (relS a i m = true → relS b i m = true)) (i m : Nat) (hi : i < a.length) (hm : m < a.length) (h : relS a i m = true) : relS b i m = true := by
 have key : ∀ i m, i < a.length → m < a.length → i ≠ m → relS a i m = true → relS b i m = true := fun i m hi hm hne h => by
  by_cases e : m < i
  ·
   exact H i hi m e h
  ·
   exact rel_symm b m i (H m hm i (by omega) (rel_symm a i m h))
 by_cases e : i = m
 ·
  subst e
  obtain ⟨q, hq, hqi, hf⟩ := ta i hi ((relS_iff a i i).mp h).1
  have h1 := key i q hi hq (fun e => hqi e.symm) ((relS_iff a i q).mpr ⟨((relS_iff a i i).mp h).1, hf.symm⟩)
  rw [relS_iff] at h1 ⊢
  exact ⟨h1.1, rfl⟩
 ·
  exact key i m hi hm e h
theorem both {a b : List S41} (hab : a.length = b.length) (ta : tree a = true) (tb : tree b = true) : upTo (oneI a b) a.length 0 = upTo (oneS a b) a.length 0 := by
 obtain ⟨_, pa, qa⟩ := tree_facts ta
 obtain ⟨_, pb, qb⟩ := tree_facts tb
 have hok : ∀ i, i < a.length → ∀ m, okI a b i m = okS a b i m := fun i hi m => by
  unfold okI okS
  rw [relI_eq (pa i hi), relI_eq (pb i (by omega))]
 rw [Bool.eq_iff_iff, upTo_iff, upTo_iff]
 constructor
 ·
  intro h
  have hp : ∀ i, i < a.length → (∀ m, m < i → (relS a i m = true ↔ relS b i m = true)) ∧ neqE a b i = false := fun i hi => by
   have := h i (by omega) (by omega)
   unfold oneI at this
   rw [Bool.and_eq_true, upTo_iff, Bool.not_eq_true'] at this
   exact ⟨fun m hm => (okS_iff a b i m).mp (by rw [← hok i hi m]; exact this.1 m (by omega) (by omega)), this.2⟩
  intro i _ hi
  unfold oneS
  rw [Bool.and_eq_true, upTo_iff, Bool.not_eq_true']
  refine ⟨(hp i (by omega)).2, fun m _ hm => (okS_iff a b i m).mpr ⟨half hab qa (fun i hi m hm => ((hp i hi).1 m hm).mp) i m (by omega) (by omega), half hab.symm qb (fun i hi m hm => ((hp i (by omega)).1 m hm).mpr) i m (by omega) (by omega)⟩⟩
 ·
  intro h i _ hi
  have := h i (by omega) (by omega)
  unfold oneS at this
  rw [Bool.and_eq_true, upTo_iff, Bool.not_eq_true'] at this
  unfold oneI
  rw [Bool.and_eq_true, upTo_iff, Bool.not_eq_true']
  exact ⟨fun m _ hm => by rw [hok i (by omega) m]; exact this.2 m (by omega) (by omega), this.1⟩
/-- What both come to. -/
def same2 (a b : List S41) : Bool := tree a && (tree b && (decide (a.length = b.length) && upTo (oneS a b) a.length 0))
theorem spec_same (a b : List S41) : Ev (fun k => spec_SameGroups.f k a b) (same2 a b) := by
 unfold spec_SameGroups.f same2
 refine Ev.bind (tree_spec a) ?_
 cases ha : tree a with
 | false => exact Ev.now _
 | true =>
  simp only [↓reduceIte]
  rw [Bool.true_and]
  refine Ev.bind (tree_spec b) ?_
  cases hb : tree b with
  | false => exact Ev.now _
  | true =>
   simp only [↓reduceIte]
   rw [Bool.true_and]
   by_cases hl : a.length = b.length
   ·
    rw [if_pos hl, decide_eq_true hl, Bool.true_and, out_eq]; exact Ev.now _
   ·
    rw [if_neg hl, decide_eq_false hl, Bool.false_and]; exact Ev.now _
theorem impl_same (a b : List S41) : Ev (fun k => impl_SameGroups.f k a b) (same2 a b) := by
 unfold impl_SameGroups.f same2
 refine Ev.bind (tree_impl a) ?_
 cases ha : tree a with
 | false => exact Ev.now _
 | true =>
  simp only [↓reduceIte]
  rw [Bool.true_and]
  refine Ev.bind (tree_impl b) ?_
  cases hb : tree b with
  | false => exact Ev.now _
  | true =>
   simp only [↓reduceIte]
   rw [Bool.true_and]
   by_cases hl : a.length = b.length
   ·
    rw [if_pos hl, decide_eq_true hl, Bool.true_and, outI_eq, both hl ha hb]; exact Ev.now _
   ·
    rw [if_neg hl, decide_eq_false hl, Bool.false_and]; exact Ev.now _
def ok38 (x : S38) : Prop := x.f0.size ≤ maxLen ∧ x.f4.size ≤ maxLen ∧ x.f5.size ≤ maxLen
theorem op38b {H : Type} {enc : TypeId × Value → H} : Opens.Op enc Tryd.prog 38 k38 ok38 := fun w spare held fuel cs x h => by
 obtain ⟨⟨a, b, c, d, s, t, g⟩, hK, h0, _, _, _, h4, h5, _⟩ := Opens.op_node w spare held fuel cs x h
 have hc := Opens.kNode_open hK
 exact ⟨⟨a, b, c, d, s, t, g⟩, by rw [hc]; exact k38_mk w _, h0, h4, h5⟩
theorem op_nodes2 {H : Type} {enc : TypeId × Value → H} : Opens.Op enc Tryd.prog 22 (Kd.slice 38 k38) (fun xs => xs.length ≤ maxLen ∧ ∀ x ∈ xs, ok38 x) :=
 Opens.op_slice z38 Tryd.underlying22 (by kernel_rfl) op38b
theorem szN (x : S38) (hx : ok38 x) (a : Int) (h0 : 0 ≤ a) (h1 : a ≤ 1048576) : ∃ q, laws_szNode.f x.f0 x.f1 x.f2 x.f3 x.f4 x.f5 x.f6 a = some q ∧ q ≤ a := by
 obtain ⟨g0, g4, g5⟩ := hx
 have hm : maxLen = 9223372036854775807 := rfl
 rw [hm] at g0 g4 g5
 unfold laws_szNode.f
 rw [w64 (x := a - (x.f0.size : Int)) (by omega) (by omega)]
 by_cases c0 : a - (x.f0.size : Int) < 0
 ·
  exact ⟨-1, if_pos c0, by omega⟩
 ·
  rw [if_neg c0, w64 (x := a - (x.f0.size : Int) - (x.f4.size : Int)) (by omega) (by omega)]
  by_cases c4 : a - (x.f0.size : Int) - (x.f4.size : Int) < 0
  ·
   exact ⟨-1, if_pos c4, by omega⟩
  ·
   rw [if_neg c4, w64 (x := a - (x.f0.size : Int) - (x.f4.size : Int) - (x.f5.size : Int)) (by omega) (by omega)]
   by_cases c5 : a - (x.f0.size : Int) - (x.f4.size : Int) - (x.f5.size : Int) < 0
   ·
    exact ⟨-1, if_pos c5, by omega⟩
   ·
    exact ⟨_, if_neg c5, by omega⟩
theorem sz_loop2 (l : List S38) (hok : ∀ x ∈ l, ok38 x) (hl : l.length ≤ 2097152) (d : Nat) : ∀ (i : Nat) (a : Int), i + d = l.length → 0 ≤ a → a ≤ 1048576 → ∃ t, Ev (fun k => laws_szNodeS.l0 k l a i) t ∧ t ≤ 1048576 := by
 induction d with
 | zero =>
  intro i a h h0 h1
  refine ⟨a, ev_at fun k => ?_, h1⟩
  simp only [laws_szNodeS.l0]
  rw [if_neg (by omega)]
 | succ d ih =>
  intro i a h h0 h1
  have hi : i < l.length := by omega
  obtain ⟨q, hq, hqa⟩ := szN l[i] (hok _ (List.getElem_mem hi)) a h0 h1
  rw [← rdL l i hi] at hq
  by_cases hn : q < 0
  ·
   refine ⟨-1, ev_at fun k => ?_, by omega⟩
   simp only [laws_szNodeS.l0]
   rw [if_pos (by omega), if_pos (by omega), hq, Option.bind_some, if_pos hn]
  ·
   obtain ⟨t, ht, hb⟩ := ih (i + 1) q (by omega) (by omega) (by omega)
   refine ⟨t, Ev.step (fun k => ?_) ht, hb⟩
   simp only [laws_szNodeS.l0]
   rw [if_pos (by omega), if_pos (by omega), hq, Option.bind_some, if_neg hn, w64s i (by omega)]
theorem sz2 (l : List S38) (hok : ∀ x ∈ l, ok38 x) (hl : l.length ≤ 9223372036854775807) (n : Int) (h0 : 0 ≤ n) (h1 : n ≤ 1048576) : ∃ t, Ev (fun k => laws_szNodeS.f k l n) t ∧ t ≤ 1048576 ∧ (t < 0 ∨ l.length ≤ 1048576) := by
 unfold laws_szNodeS.f
 rw [w64 (x := n - (l.length : Int)) (by omega) (by omega)]
 by_cases h : n - (l.length : Int) < 0
 ·
  simp only [if_pos h]; exact ⟨-1, Ev.now _, by omega, Or.inl (by omega)⟩
 ·
  simp only [if_neg h]
  obtain ⟨t, ht, hb⟩ := sz_loop2 l hok (by omega) l.length 0 (n - (l.length : Int)) (by omega) (by omega) (by omega)
  exact ⟨t, ht, hb, Or.inr (by omega)⟩
theorem pure_ (a b : List S38) (oka : ∀ x ∈ a, ok38 x) (okb : ∀ x ∈ b, ok38 x) (ha : a.length ≤ 9223372036854775807) (hb : b.length ≤ 9223372036854775807) : Ev (fun k => laws_FnExactSameGroups.f k a b) true := by
 unfold laws_FnExactSameGroups.f
 obtain ⟨t, ht, hu, h⟩ := sz2 a oka ha 1048576 (by omega) (by omega)
 refine Ev.bind ht ?_
 by_cases h0 : t < 0
 ·
  simp only [if_pos h0]; exact Ev.now _
 simp only [if_neg h0]
 obtain ⟨t', ht', _, h'⟩ := sz2 b okb hb t (by omega) hu
 refine Ev.bind ht' ?_
 by_cases h0' : t' < 0
 ·
  simp only [if_pos h0']; exact Ev.now _
 simp only [if_neg h0']
 have h1 : a.length ≤ 2097152 := by omega
 have h1' : b.length ≤ 2097152 := by omega
 have h2 : (nds a).length ≤ 2097152 := by rw [nds_length]; exact h1
 have h2' : (nds b).length ≤ 2097152 := by rw [nds_length]; exact h1'
 refine Ev.bind (to_ev a h1) (Ev.bind (to_ev b h1') (Ev.bind (spec_same _ _) (Ev.bind (to_ev a h1) (Ev.bind (to_ev b h1') (Ev.bind (impl_same _ _) ?_)))))
 simp only [bne_self_eq_false, Bool.false_eq_true, if_false]
 refine Ev.bind (to_ev a h1) (Ev.bind (eq_ev _ h2) ?_)
 simp only [if_true]
 refine Ev.bind (to_ev b h1') (Ev.bind (eq_ev _ h2') ?_)
 simp only [if_true]
 exact Ev.now _
theorem walk {P : Prop} {H : Type} {enc : TypeId × Value → H} (W : World) (_ : P) (hsh : W.ShapedOpen Tryd.prog) (ad : Option Addr) (len cap : Nat) {fuel : Nat} {x : DataW H × List MemPlace} (f : DataW.trod enc Tryd.prog W 0 (fun _ => true) true fuel 22 [.slice ad len cap] = some x) (ad' : Option Addr) (len' cap' : Nat) {fuel' : Nat} {x' : DataW H × List MemPlace} (f' : DataW.trod enc Tryd.prog W 0 (fun _ => true) true fuel' 22 [.slice ad' len' cap'] = some x') :
 Calls Tryd.prog 3 #[.slice ad len cap, .slice ad' len' cap'] W fun e w' => e = .returned (.bool true) ∧ Below W.heap.size W w' := by
 obtain ⟨l, ⟨A, c, hc, hl, hr⟩, hm, ho⟩ := op_nodes2 W _ _ _ _ _ f
 obtain ⟨rfl, rfl, rfl⟩ : ad = A ∧ len = l.length ∧ cap = c := by simpa using hc
 obtain ⟨l', ⟨A', c', hc', hl', hr'⟩, hm', ho'⟩ := op_nodes2 W _ _ _ _ _ f'
 obtain ⟨rfl, rfl, rfl⟩ : ad' = A' ∧ len' = l'.length ∧ cap' = c' := by simpa using hc'
 obtain ⟨k, hk⟩ := pure_ l l' ho ho' (by unfold maxLen at hm; omega) (by unfold maxLen at hm'; omega)
 exact laws_FnExactSameGroups.calls k ad cap l ad' cap' l' true W (Tab.of_shaped hsh) hr hl hr' hl' (hk k (Nat.le_refl k))
end Go.Proofs.YtnfihjebbhjgjaaDoor.SameX
end
