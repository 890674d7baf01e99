/- A text cut at its slashes: the library's words, a recursion over the list, and what joining gives back. No program in sight. No condition. -/
import Derived.Lib.SplitLaws
import Derived.Lib.IndexBytes
import Derived.Lib.Join
namespace Go.Proofs.YtnfihjebbhjgjaaDoor.Parts
open Go Go.Lib
set_option linter.unusedSimpArgs false
set_option linter.unusedVariables false

def parts : List UInt8 → List (List UInt8)
 | [] => [[]]
 | b :: l => if b = 47 then [] :: parts l else (b :: (parts l).headD []) :: (parts l).tail
theorem parts_cons (b : UInt8) (l : List UInt8) : parts (b :: l) = if b = 47 then [] :: parts l else (b :: (parts l).headD []) :: (parts l).tail := rfl
theorem parts_ne (l : List UInt8) : parts l ≠ [] := by
 cases l with
 | nil => simp [parts]
 | cons b l => rw [parts_cons]; split <;> simp
theorem parts_eta (l : List UInt8) : (parts l).headD [] :: (parts l).tail = parts l := by
 cases h : parts l with
 | nil => exact absurd h (parts_ne l)
 | cons a t => rfl
theorem parts_length (l : List UInt8) : (parts l).length = l.count 47 + 1 := by
 induction l with
 | nil => rfl
 | cons b l ih =>
  rw [parts_cons]
  by_cases h : b = 47
  ·
   rw [if_pos h, List.length_cons, ih, h, List.count_cons_self]
  ·
   rw [if_neg h, List.length_cons, List.length_tail, ih, List.count_cons_of_ne (by simpa using h)]; omega
theorem parts_miss : ∀ l : List UInt8, indexByte l 47 = -1 → parts l = [l]
 | [], _ => rfl
 | b :: l, h => by
  unfold indexByte at h
  by_cases hb : b = 47
  ·
   simp [hb] at h
  ·
   rw [if_neg (by simpa using hb)] at h
   have hl : indexByte l 47 = -1 := by
    by_cases h1 : indexByte l 47 = -1
    ·
     exact h1
    ·
     rw [if_neg (by simpa using h1)] at h
     have := indexByte_ge l 47
     omega
   rw [parts_cons]
   rw [if_neg hb, parts_miss l hl]
   rfl
theorem parts_hit : ∀ (l : List UInt8) (i : Nat), indexByte l 47 = i → parts l = l.take i :: parts (l.drop (i + 1))
 | [], i, h => by simp [indexByte] at h
 | b :: l, i, h => by
  unfold indexByte at h
  by_cases hb : b = 47
  ·
   rw [if_pos (by simpa using hb)] at h
   obtain rfl : i = 0 := by omega
   rw [parts_cons]
   rw [if_pos hb]
   simp
  ·
   rw [if_neg (by simpa using hb)] at h
   by_cases h1 : indexByte l 47 = -1
   ·
    rw [if_pos (by simpa using h1)] at h; omega
   ·
    rw [if_neg (by simpa using h1)] at h
    obtain ⟨j, rfl⟩ : ∃ j : Nat, i = j + 1 := ⟨i - 1, by have := indexByte_ge l 47; omega⟩
    have ih := parts_hit l j (by omega)
    rw [parts_cons, if_neg hb, ih]
    simp
theorem splitK_parts (k : Nat) : ∀ s : List UInt8, s.count 47 = k → splitK [47] 0 k s = parts s := by
 induction k with
 | zero =>
  intro s h
  have hl := parts_length s
  by_cases h1 : indexByte s 47 = -1
  ·
   rw [parts_miss s h1]; rfl
  ·
   obtain ⟨i, hi⟩ : ∃ i : Nat, indexByte s 47 = i := ⟨(indexByte s 47).toNat, by have := indexByte_ge s 47; omega⟩
   have := parts_length (s.drop (i + 1))
   rw [parts_hit s i hi, List.length_cons] at hl
   omega
 | succ k ih =>
  intro s h
  have hl := parts_length s
  unfold splitK
  rw [index_one]
  by_cases h1 : indexByte s 47 = -1
  ·
   rw [if_pos (by simpa using h1), parts_miss s h1]
  ·
   obtain ⟨i, hi⟩ : ∃ i : Nat, indexByte s 47 = i := ⟨(indexByte s 47).toNat, by have := indexByte_ge s 47; omega⟩
   have hd := parts_length (s.drop (i + 1))
   rw [parts_hit s i hi, List.length_cons] at hl
   rw [if_neg (by simpa using h1), hi, parts_hit s i hi, Int.toNat_natCast, Nat.add_zero]
   congr 1
   exact ih _ (by show (s.drop (i + 1)).count 47 = k; omega)
theorem split_parts (s : List UInt8) : split s [47] = parts s := by
 unfold split
 rw [count_one]
 exact splitK_parts _ s rfl
theorem join_step (x : List UInt8) (r : List (List UInt8)) (h : r ≠ []) : join (x :: r) [47] = x ++ 47 :: join r [47] := by
 cases r with
 | nil => exact absurd rfl h
 | cons y r => rw [join_cons, join_cons]; simp [joinTail]
theorem join_parts (l : List UInt8) : join (parts l) [47] = l := by
 induction l with
 | nil => rfl
 | cons b l ih =>
  rw [parts_cons]
  by_cases h : b = 47
  ·
   rw [if_pos h, join_step _ _ (parts_ne l), ih, h]; rfl
  ·
   rw [if_neg h]
   rw [← parts_eta l] at ih
   rw [join_cons] at ih ⊢
   rw [List.cons_append, ih]
theorem join_append (p t : List (List UInt8)) (hp : p ≠ []) (ht : t ≠ []) : join (p ++ t) [47] = join p [47] ++ 47 :: join t [47] := by
 induction p with
 | nil => exact absurd rfl hp
 | cons x p ih =>
  cases p with
  | nil => rw [List.singleton_append, join_step x t ht, join_one]
  | cons y p => rw [List.cons_append, join_step x _ (by simp), join_step x _ (by simp), ih (by simp), List.append_assoc, List.cons_append]
theorem parts_append (p r : List UInt8) : parts (p ++ 47 :: r) = parts p ++ parts r := by
 induction p with
 | nil => simp [parts]
 | cons b p ih =>
  rw [List.cons_append, parts_cons, parts_cons]
  by_cases h : b = 47
  ·
   rw [if_pos h, if_pos h, ih, List.cons_append]
  ·
   rw [if_neg h, if_neg h, ih]
   rw [← parts_eta p]
   simp
theorem parts_noslash : ∀ l : List UInt8, (∀ b ∈ l, b ≠ 47) → parts l = [l]
 | [], _ => rfl
 | b :: l, h => by
  rw [parts_cons]
  rw [if_neg (h b (by simp)), parts_noslash l (fun x hx => h x (by simp [hx]))]
  rfl
def ofL (l : List UInt8) : ByteArray := ⟨l.toArray⟩
theorem ofL_data (l : List UInt8) : (ofL l).data.toList = l := by simp [ofL]
theorem ofL_of (s : ByteArray) : ofL s.data.toList = s := by simp [ofL]
theorem ext {s t : ByteArray} (h : s.data.toList = t.data.toList) : s = t := by rw [← ofL_of s, h, ofL_of]
theorem size_eq (s : ByteArray) : s.size = s.data.toList.length := by rw [Array.length_toList]; rfl
def slash : ByteArray := ⟨#[47]⟩
def namesB (s : ByteArray) : List ByteArray := (parts s.data.toList).map ofL
theorem namesB_data (s : ByteArray) : (namesB s).map (·.data.toList) = parts s.data.toList := by simp [namesB, List.map_map, Function.comp_def, ofL_data]
theorem map_inj {l m : List ByteArray} (h : l.map (·.data.toList) = m.map (·.data.toList)) : l = m := by
 have := congrArg (List.map ofL) h
 simpa [List.map_map, Function.comp_def, ofL_of] using this
theorem splitB_names (s : ByteArray) : splitB slash 0 (countB s slash) s = namesB s := by
 apply map_inj
 rw [splitB_data, namesB_data, ← split_parts]
 rfl
theorem namesB_ne (s : ByteArray) : namesB s ≠ [] := by simp [namesB, parts_ne]
theorem namesB_length (s : ByteArray) : (namesB s).length ≤ s.size + 1 := by
 rw [namesB, List.length_map, parts_length, size_eq]
 have := List.count_le_length (a := (47 : UInt8)) (l := s.data.toList)
 omega
def joinB (l : List ByteArray) : ByteArray := ofL (join (l.map (·.data.toList)) [47])
theorem joinB_names (s : ByteArray) : joinB (namesB s) = s := by rw [joinB, namesB_data, join_parts, ofL_of]
end Go.Proofs.YtnfihjebbhjgjaaDoor.Parts
