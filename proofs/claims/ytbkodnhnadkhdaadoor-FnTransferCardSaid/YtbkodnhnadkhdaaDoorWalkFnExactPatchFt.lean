/- Tokens handed in: copied into the program's own type they are equal again; their size is small or the law says true at once. No condition but the length. -/
import Derived.Test.YtbkodnhnadkhdaaDoorPFtx0
import Derived.Test.YtbkodnhnadkhdaaDoorPFtx4
import Derived.Test.YtbkodnhnadkhdaaDoorPFtx5
import Derived.Test.YtbkodnhnadkhdaaDoorLib
section
/- Tokens handed in: copied into the program's own type they are equal again; their size is small or the law says true at once. No condition but the length. -/
namespace Go.Proofs.YtbkodnhnadkhdaaDoor.Rec
open Go Go.RowKit Go.Proofs.YtbkodnhnadkhdaaDoor.PFt Go.Proofs.YtbkodnhnadkhdaaDoorW.PrintWords Go.Proofs.YtbkodnhnadkhdaaDoorW.PrintMore Go.Proofs.YtbkodnhnadkhdaaDoor.Arith Go.Proofs.YtbkodnhnadkhdaaDoor.Lib
set_option linter.unusedSimpArgs false
set_option linter.unusedVariables false

theorem getD_at {α : Type} (z : α) (l : List α) (i : Nat) (h : i < l.length) : l.getD i z = l[i] := by
  simp [List.getD_eq_getElem?_getD, List.getElem?_eq_getElem h]
theorem rdT (l : List S94) (i : Nat) (h : i < l.length) : rd_T94 l (i : Int) = l[i] := by
  unfold rd_T94; rw [Int.toNat_natCast]; exact getD_at _ _ _ h
theorem tok_some (a : Int) (s : ByteArray) (b c : Int) : ∃ r, impl_TokenOk.f a s b c = some r := by
  have hw : ∃ q, impl_within.f (s.size : Int) 1 100 = some q := by unfold impl_within.f; split <;> exact ⟨_, rfl⟩
  obtain ⟨q, hq⟩ := hw
  unfold impl_TokenOk.f
  rw [hq]
  simp only [Option.bind_some]
  repeat' split
  all_goals exact ⟨_, rfl⟩
def ok (x : S94) : Bool := (impl_TokenOk.f x.f0 x.f1 x.f2 x.f3).getD false
theorem tok_ok (x : S94) : impl_TokenOk.f x.f0 x.f1 x.f2 x.f3 = some (ok x) := by
  obtain ⟨r, hr⟩ := tok_some x.f0 x.f1 x.f2 x.f3
  unfold ok; rw [hr]; rfl

end Go.Proofs.YtbkodnhnadkhdaaDoor.Rec
end

section
/- What Patch gives, in the program and in the reference: the same text, for every old text, block size and list of tokens. Condition: the lengths. -/
namespace Go.Proofs.YtbkodnhnadkhdaaDoor.Patch
open Go Go.RowKit Go.Proofs.YtbkodnhnadkhdaaDoor.PFt Go.Proofs.YtbkodnhnadkhdaaDoorW.PrintWords Go.Proofs.YtbkodnhnadkhdaaDoorW.PrintMore Go.Proofs.YtbkodnhnadkhdaaDoor.Arith Go.Proofs.YtbkodnhnadkhdaaDoor.Lib Go.Proofs.YtbkodnhnadkhdaaDoor.Rec
set_option linter.unusedSimpArgs false
set_option linter.unusedVariables false

/-- The blocks of a text. -/
def cut (n : Nat) : Nat → ByteArray → List ByteArray
  | 0, _ => []
  | d + 1, s => if s.size = 0 then [] else if s.size ≤ n then [s] else s.extract 0 n :: cut n d (s.extract n s.size)
theorem tail_bytes (s : ByteArray) (n : Nat) : bytesOf (s.extract n s.size) = (bytesOf s).drop n := by
  rw [extract_bytesOf, List.take_of_length_le (by rw [bytesOf_length]; exact Nat.le_refl _)]
theorem div_step (a n : Nat) (hn : 1 ≤ n) (h : n < a) : (a + n - 1) / n = (a - n + n - 1) / n + 1 := by
  rw [show a + n - 1 = (a - n + n - 1) + n by omega, Nat.add_div_right _ (by omega)]
theorem cut_len (n : Nat) (hn : 1 ≤ n) (d : Nat) : ∀ s : ByteArray, s.size ≤ d → (cut n d s).length = (s.size + n - 1) / n := by
  induction d with
  | zero =>
    intro s hs
    rw [show s.size = 0 by omega, Nat.div_eq_of_lt (by omega)]; rfl
  | succ d ih =>
    intro s hs
    simp only [cut]
    by_cases h0 : s.size = 0
    · rw [if_pos h0, h0, Nat.div_eq_of_lt (by omega)]; rfl
    rw [if_neg h0]
    by_cases h1 : s.size ≤ n
    · rw [if_pos h1, show s.size + n - 1 = (s.size - 1) + n by omega, Nat.add_div_right _ (by omega), Nat.div_eq_of_lt (by omega)]; rfl
    · rw [if_neg h1, List.length_cons, ih _ (by rw [ByteArray.size_extract]; omega), div_step s.size n hn (by omega)]
      congr 3
      rw [ByteArray.size_extract]; omega
theorem cut_piece (n : Nat) (hn : 1 ≤ n) (d : Nat) : ∀ s : ByteArray, s.size ≤ d → ∀ (i : Nat) (b : ByteArray), (cut n d s)[i]? = some b → bytesOf b = ((bytesOf s).drop (i * n)).take n := by
  induction d with
  | zero => intro s hs i b h; simp [cut] at h
  | succ d ih =>
    intro s hs i b h
    simp only [cut] at h
    split at h
    · simp at h
    · split at h
      · cases i with
        | zero =>
          simp at h; subst h
          rw [Nat.zero_mul, List.drop_zero, List.take_of_length_le (by rw [bytesOf_length]; assumption)]
        | succ i => simp at h
      · cases i with
        | zero =>
          simp at h; subst h
          rw [extract_bytesOf, List.drop_zero, Nat.zero_mul, List.drop_zero]
        | succ i =>
          simp at h
          rw [ih _ (by rw [ByteArray.size_extract]; omega) i b h, tail_bytes, List.drop_drop]
          congr 2
          rw [Nat.add_mul]; omega
/-- The bytes of some blocks that stand one behind the other. -/
def seg (s : ByteArray) (n i m : Nat) : List Int := ((bytesOf s).drop (i * n)).take (m * n)
theorem seg_length (s : ByteArray) (n i m : Nat) : (seg s n i m).length ≤ s.size := by
  unfold seg
  rw [List.length_take, List.length_drop, bytesOf_length]; omega
theorem seg_zero (s : ByteArray) (n i : Nat) : seg s n i 0 = [] := by simp [seg]
theorem seg_step (s : ByteArray) (n i m : Nat) : seg s n i (m + 1) = ((bytesOf s).drop (i * n)).take n ++ seg s n (i + 1) m := by
  unfold seg
  rw [show (m + 1) * n = n + m * n by rw [Nat.add_mul]; omega, List.take_add, List.drop_drop]
  congr 3
  rw [Nat.add_mul]; omega
theorem seg_extract (s : ByteArray) (n i m : Nat) : bytesOf (s.extract (i * n) (min ((i + m) * n) s.size)) = seg s n i m := by
  unfold seg
  rw [extract_bytesOf, List.drop_take]
  by_cases h : (i + m) * n ≤ s.size
  · rw [Nat.min_eq_left h]
    congr 1
    rw [Nat.add_mul]; omega
  · rw [Nat.min_eq_right (by omega), List.take_of_length_le (by rw [List.length_drop, bytesOf_length]; exact Nat.le_refl _), List.take_of_length_le]
    rw [List.length_drop, bytesOf_length]
    rw [Nat.add_mul] at h; omega
theorem ok_facts {x : S94} (h : ok x = true) : (x.f0 = 0 ∧ 1 ≤ x.f1.size ∧ x.f1.size ≤ 100 ∧ x.f2 = 0 ∧ x.f3 = 0) ∨ (x.f0 = 1 ∧ x.f1.size = 0 ∧ 0 ≤ x.f2 ∧ 1 ≤ x.f3) := by
  have ht := tok_ok x
  rw [h] at ht
  unfold impl_TokenOk.f impl_within.f at ht
  by_cases h0 : x.f0 = 0
  · left
    rw [if_pos h0] at ht
    by_cases h1 : (x.f1.size : Int) ≥ 1
    · rw [if_pos h1] at ht
      by_cases h2 : (x.f1.size : Int) ≤ 100
      · by_cases h3 : x.f2 = 0
        · simp [h2, h3] at ht; omega
        · simp [h2, h3] at ht
      · simp [h2] at ht
    · rw [if_neg h1] at ht; simp at ht
  · right
    rw [if_neg h0] at ht
    by_cases h1 : x.f0 = 1
    · rw [if_pos h1] at ht
      by_cases h2 : x.f1.toList = ([] : List UInt8)
      · have h3 := (toList_nil x.f1).1 h2
        rw [if_pos h2] at ht
        by_cases h4 : x.f2 ≥ 0
        · simp [h4] at ht; omega
        · simp [h4] at ht
      · simp [h2] at ht
    · simp [h1] at ht
/-- What one token adds. -/
def step (s : ByteArray) (n nb : Nat) (acc : List Int) (x : S94) : Option (List Int) :=
  if ok x = true then
    if x.f0 = 1 then
      if x.f2 < nb ∧ x.f3 ≤ nb - x.f2 then
        if ((acc ++ seg s n x.f2.toNat x.f3.toNat).length : Int) > 20000 then none else some (acc ++ seg s n x.f2.toNat x.f3.toNat)
      else none
    else if ((acc ++ bytesOf x.f1).length : Int) > 20000 then none else some (acc ++ bytesOf x.f1)
  else none
def run (s : ByteArray) (n nb : Nat) : List Int → List S94 → ByteArray × Bool
  | acc, [] => (strOfNums acc, true)
  | acc, x :: l => match step s n nb acc x with
    | none => ((⟨#[]⟩ : ByteArray), false)
    | some a => run s n nb a l
theorem step_length {s : ByteArray} {n nb : Nat} {acc a : List Int} {x : S94} (h : step s n nb acc x = some a) : a.length ≤ 20000 := by
  unfold step at h
  split at h
  · split at h
    · split at h
      · split at h
        · cases h
        · obtain rfl := Option.some.inj h; omega
      · cases h
    · split at h
      · cases h
      · obtain rfl := Option.some.inj h; omega
  · cases h

section
variable (s : ByteArray) (n : Nat) (hn : 1 ≤ n) (hn2 : n ≤ 256) (hs : s.size ≤ 20000) (l : List S94) (hl : l.length ≤ 20000)
include hn hn2 hs hl
omit hl in
theorem nb_le : (cut n s.size s).length ≤ 20255 := by
  rw [cut_len n hn s.size s (Nat.le_refl _)]
  exact Nat.le_trans (Nat.div_le_self _ _) (by omega)
omit hl in
theorem impl_cut (f2 f3 : Nat) (h : f2 < (cut n s.size s).length) (h' : f2 + f3 ≤ (cut n s.size s).length) :
    ∃ lo hi : Nat, f2 * n = lo ∧ min ((f2 + f3) * n) s.size = hi ∧ lo ≤ hi ∧ hi ≤ s.size ∧ wrap64 ((f2 : Int) * (n : Int)) = lo ∧ mn (wrap64 (wrap64 ((f2 : Int) + (f3 : Int)) * (n : Int))) (s.size : Int) = hi := by
  have hnb := nb_le s n hn hn2 hs
  have hc := cut_len n hn s.size s (Nat.le_refl _)
  have h1 : (f2 + 1) * n ≤ s.size + n - 1 := (Nat.le_div_iff_mul_le (by omega : 0 < n)).1 (by omega)
  rw [Nat.add_mul, Nat.one_mul] at h1
  have hle : f2 * n ≤ (f2 + f3) * n := Nat.mul_le_mul_right n (by omega)
  have hm2 : (f2 + f3) * n ≤ 20255 * 256 := Nat.mul_le_mul (by omega) hn2
  have hm3 : (20255 : Nat) * 256 = 5185280 := rfl
  rw [hm3] at hm2
  generalize hlo : f2 * n = lo at *
  generalize hhi : (f2 + f3) * n = hh at *
  refine ⟨lo, min hh s.size, rfl, rfl, by omega, by omega, ?_, ?_⟩
  · rw [← Int.natCast_mul, hlo]; exact w64 (by omega) (by omega)
  · rw [w64 (x := (f2 : Int) + (f3 : Int)) (by omega) (by omega), ← Int.natCast_add, ← Int.natCast_mul, hhi, w64 (x := (hh : Int)) (by omega) (by omega)]
    unfold mn; split <;> omega
omit hn hn2 hs l hl in
theorem impl_j2 (k : Nat) (s : ByteArray) (n : Nat) (nb : Int) (acc : List Int) (l : List S94) (i : Nat) (f1 : ByteArray) (f2 f3 : Nat) (sg : List Int) (hf1 : f1.size = 0) (ha : acc.length ≤ 20000) (hi2 : i < 100000) (hs : s.size ≤ 20000)
    (h : ∃ lo hi : Nat, f2 * n = lo ∧ min ((f2 + f3) * n) s.size = hi ∧ lo ≤ hi ∧ hi ≤ s.size ∧ wrap64 ((f2 : Int) * (n : Int)) = lo ∧ mn (wrap64 (wrap64 ((f2 : Int) + (f3 : Int)) * (n : Int))) (s.size : Int) = hi)
    (hex : bytesOf (s.extract (f2 * n) (min ((f2 + f3) * n) s.size)) = sg) :
    impl_Patch.j2 (k + 1) s n nb acc l (l.length : Int) i false 1 f1 f2 f3 = if ((acc ++ sg).length : Int) > 20000 then some ((⟨#[]⟩ : ByteArray), false) else impl_Patch.l0 k s n nb (acc ++ sg) l (l.length : Int) ((i + 1 : Nat) : Int) := by
  obtain ⟨lo, hi, e1, e2, h1, h2, h3, h4⟩ := h
  rw [e1, e2] at hex
  have hb0 : bytesOf f1 = [] := List.eq_nil_of_length_eq_zero (by rw [bytesOf_length]; exact hf1)
  have hz : (s.extract lo hi).size ≤ s.size := by rw [ByteArray.size_extract]; omega
  simp only [impl_Patch.j2, Bool.false_eq_true, if_false]
  rw [if_pos (by omega), Option.bind_some, if_pos trivial, hb0, List.append_nil, h3, h4, if_pos (by omega), if_pos (by omega), if_pos (by omega), Int.toNat_natCast, Int.toNat_natCast, if_pos (by omega), Option.bind_some, hex, w64s i (by omega)]
set_option maxHeartbeats 1000000 in
theorem impl_loop (d : Nat) : ∀ (i : Nat) (acc : List Int), i + d = l.length → acc.length ≤ 20000 → Ev (fun k => impl_Patch.l0 k s n ((cut n s.size s).length : Int) acc l (l.length : Int) i) (run s n (cut n s.size s).length acc (l.drop i)) := by
  have hnb := nb_le s n hn hn2 hs
  induction d with
  | zero =>
    intro i acc h ha
    rw [List.drop_eq_nil_of_le (by omega)]
    refine ev_at fun k => ?_
    simp only [impl_Patch.l0]
    rw [if_neg (by omega)]
    rfl
  | succ d ih =>
    intro i acc h ha
    have hi : i < l.length := by omega
    rw [List.drop_eq_getElem_cons hi, run]
    have h0 : ∀ k, impl_Patch.l0 (k + 1) s n ((cut n s.size s).length : Int) acc l (l.length : Int) i = (if ok l[i] = true then (if l[i].f0 = 1 then (if l[i].f2 ≥ ((cut n s.size s).length : Int) then impl_Patch.j2 k s n ((cut n s.size s).length : Int) acc l (l.length : Int) i true l[i].f0 l[i].f1 l[i].f2 l[i].f3 else impl_Patch.j2 k s n ((cut n s.size s).length : Int) acc l (l.length : Int) i (decide (l[i].f3 > wrap64 (((cut n s.size s).length : Int) - l[i].f2))) l[i].f0 l[i].f1 l[i].f2 l[i].f3) else impl_Patch.j2 k s n ((cut n s.size s).length : Int) acc l (l.length : Int) i false l[i].f0 l[i].f1 l[i].f2 l[i].f3) else impl_Patch.j2 k s n ((cut n s.size s).length : Int) acc l (l.length : Int) i true l[i].f0 l[i].f1 l[i].f2 l[i].f3) := by
      intro k
      simp only [impl_Patch.l0]
      rw [if_pos (by omega), if_pos (by omega), if_pos (by omega), rdT l i hi, tok_ok, Option.bind_some]
    have hbad : Ev (fun k => impl_Patch.j2 k s n ((cut n s.size s).length : Int) acc l (l.length : Int) i true l[i].f0 l[i].f1 l[i].f2 l[i].f3) ((⟨#[]⟩ : ByteArray), false) := ev_at fun k => by simp [impl_Patch.j2]
    cases ho : ok l[i] with
    | false =>
      rw [show step s n (cut n s.size s).length acc l[i] = none from by unfold step; rw [ho]; rfl]
      exact Ev.step (fun k => by rw [h0, ho, if_neg (by decide)]) hbad
    | true =>
      rcases ok_facts ho with ⟨e0, e1, e2, e3, e4⟩ | ⟨e0, e1, e2, e3⟩
      · have hne : ¬ l[i].f0 = 1 := by omega
        have hst : step s n (cut n s.size s).length acc l[i] = if ((acc ++ bytesOf l[i].f1).length : Int) > 20000 then none else some (acc ++ bytesOf l[i].f1) := by unfold step; rw [if_pos ho, if_neg hne]
        refine Ev.step (f := fun k => impl_Patch.j2 k s n ((cut n s.size s).length : Int) acc l (l.length : Int) i false l[i].f0 l[i].f1 l[i].f2 l[i].f3) (fun k => by rw [h0, ho, if_pos rfl, if_neg hne]) ?_
        refine Ev.step (f := fun k => if ((acc ++ bytesOf l[i].f1).length : Int) > 20000 then some ((⟨#[]⟩ : ByteArray), false) else impl_Patch.l0 k s n ((cut n s.size s).length : Int) (acc ++ bytesOf l[i].f1) l (l.length : Int) ((i + 1 : Nat) : Int)) (fun k => ?_) ?_
        · simp only [impl_Patch.j2, Bool.false_eq_true, if_false]
          rw [if_pos (by omega), Option.bind_some, if_neg hne, w64s i (by omega)]
        · rw [hst]
          by_cases hbig : ((acc ++ bytesOf l[i].f1).length : Int) > 20000
          · simp only [if_pos hbig]; exact Ev.now _
          · simp only [if_neg hbig]
            exact ih (i + 1) _ (by omega) (by omega)
      · obtain ⟨f2, hf2⟩ := Int.eq_ofNat_of_zero_le e2
        obtain ⟨f3, hf3⟩ := Int.eq_ofNat_of_zero_le (show 0 ≤ l[i].f3 by omega)
        have hb0 : bytesOf l[i].f1 = [] := List.eq_nil_of_length_eq_zero (by rw [bytesOf_length]; exact e1)
        by_cases hin : l[i].f2 < ((cut n s.size s).length : Int) ∧ l[i].f3 ≤ ((cut n s.size s).length : Int) - l[i].f2
        · have hst : step s n (cut n s.size s).length acc l[i] = if ((acc ++ seg s n f2 f3).length : Int) > 20000 then none else some (acc ++ seg s n f2 f3) := by
            unfold step
            rw [if_pos ho, if_pos e0, if_pos hin, hf2, hf3]
            rfl
          have hsl := seg_length s n f2 f3
          have hcf := impl_cut s n hn hn2 hs f2 f3 (by omega) (by omega)
          have hex := seg_extract s n f2 f3
          refine Ev.step (f := fun k => impl_Patch.j2 k s n ((cut n s.size s).length : Int) acc l (l.length : Int) i false l[i].f0 l[i].f1 l[i].f2 l[i].f3) (fun k => by rw [h0, ho, if_pos rfl, if_pos e0, if_neg (by omega), w64 (x := ((cut n s.size s).length : Int) - l[i].f2) (by omega) (by omega), decide_eq_false (by omega)]) ?_
          refine Ev.step (f := fun k => if ((acc ++ seg s n f2 f3).length : Int) > 20000 then some ((⟨#[]⟩ : ByteArray), false) else impl_Patch.l0 k s n ((cut n s.size s).length : Int) (acc ++ seg s n f2 f3) l (l.length : Int) ((i + 1 : Nat) : Int)) (fun k => ?_) ?_
          · rw [e0, hf2, hf3]
            exact impl_j2 k s n ((cut n s.size s).length : Int) acc l i l[i].f1 f2 f3 (seg s n f2 f3) e1 (by omega) (by omega) hs hcf hex
          · rw [hst]
            by_cases hbig : ((acc ++ seg s n f2 f3).length : Int) > 20000
            · simp only [if_pos hbig]; exact Ev.now _
            · simp only [if_neg hbig]
              exact ih (i + 1) _ (by omega) (by omega)
        · rw [show step s n (cut n s.size s).length acc l[i] = none from by unfold step; rw [if_pos ho, if_pos e0, if_neg hin]]
          refine Ev.step (f := fun k => impl_Patch.j2 k s n ((cut n s.size s).length : Int) acc l (l.length : Int) i true l[i].f0 l[i].f1 l[i].f2 l[i].f3) (fun k => ?_) hbad
          rw [h0, ho, if_pos rfl, if_pos e0]
          by_cases h1 : l[i].f2 ≥ ((cut n s.size s).length : Int)
          · rw [if_pos h1]
          · rw [if_neg h1, w64 (x := ((cut n s.size s).length : Int) - l[i].f2) (by omega) (by omega), decide_eq_true (by omega)]
end

end Go.Proofs.YtbkodnhnadkhdaaDoor.Patch
end

section
/- The law on Patch returns true at every old text, size and list of tokens: its plain statement, and its walk. No condition. -/
namespace Go.Proofs.YtbkodnhnadkhdaaDoor.WalkFnExactPatch
open Go Go.RowKit Go.Proofs.YtbkodnhnadkhdaaDoor.PFt Go.Proofs.YtbkodnhnadkhdaaDoorW.PrintWords Go.Proofs.YtbkodnhnadkhdaaDoorW.PrintMore Go.Proofs.YtbkodnhnadkhdaaDoor.Arith Go.Proofs.YtbkodnhnadkhdaaDoor.Lib Go.Proofs.YtbkodnhnadkhdaaDoor.Rec Go.Proofs.YtbkodnhnadkhdaaDoor.Patch
set_option linter.unusedSimpArgs false
set_option linter.unusedVariables false

theorem within_ (x y z : Int) : impl_within.f x y z = some (decide (y ≤ x ∧ x ≤ z)) := by
  unfold impl_within.f
  by_cases h : y ≤ x <;> simp [h]
def val (s : ByteArray) (a : Int) (l : List S94) : ByteArray × Bool :=
  if 1 ≤ a ∧ a ≤ 256 then (if (s.size : Int) > 20000 then ((⟨#[]⟩ : ByteArray), false) else if (l.length : Int) > 20000 then ((⟨#[]⟩ : ByteArray), false) else run s a.toNat (cut a.toNat s.size s).length [] l) else ((⟨#[]⟩ : ByteArray), false)
theorem impl_ev (s : ByteArray) (a : Int) (l : List S94) : Ev (fun k => impl_Patch.f k s a l) (val s a l) := by
  have hbad : Ev (fun k => impl_Patch.j0 k s a l true) ((⟨#[]⟩ : ByteArray), false) := ev_at fun k => by simp [impl_Patch.j0]
  unfold impl_Patch.f val
  simp only [within_, Option.bind_some]
  by_cases h : 1 ≤ a ∧ a ≤ 256
  · simp only [decide_eq_true h, if_true, if_pos h]
    by_cases h1 : (s.size : Int) > 20000
    · simp only [if_pos h1]; exact hbad
    · simp only [if_neg h1]
      by_cases h2 : (l.length : Int) > 20000
      · simp only [decide_eq_true h2, if_pos h2]; exact hbad
      · simp only [decide_eq_false h2, if_neg h2]
        obtain ⟨n, rfl⟩ := Int.eq_ofNat_of_zero_le (show 0 ≤ a by omega)
        rw [Int.toNat_natCast]
        have hc := cut_len n (by omega) s.size s (Nat.le_refl _)
        have hd : wrap64 (Int.tdiv (wrap64 ((wrap64 ((s.size : Int) + (n : Int))) - 1)) (n : Int)) = ((cut n s.size s).length : Int) := by
          rw [w64 (x := (s.size : Int) + (n : Int)) (by omega) (by omega), w64 (x := (s.size : Int) + (n : Int) - 1) (by omega) (by omega), Int.tdiv_eq_ediv_of_nonneg (by omega), hc]
          have hle : (s.size + n - 1) / n ≤ s.size + n - 1 := Nat.div_le_self _ _
          rw [show (s.size : Int) + (n : Int) - 1 = ((s.size + n - 1 : Nat) : Int) by omega, ← Int.natCast_ediv, w64 (by omega) (by omega)]
        refine Ev.step (f := fun k => impl_Patch.l0 k s n ((cut n s.size s).length : Int) [] l (l.length : Int) 0) (fun k => ?_) ?_
        · simp only [impl_Patch.j0, Bool.false_eq_true, if_false]
          rw [if_neg (by omega), hd]
        · have := impl_loop s n (by omega) (by omega) (by omega) l (by omega) l.length 0 [] (by omega) (by simp)
          rw [List.drop_zero] at this
          exact this
  · simp only [decide_eq_false h, if_neg h, Bool.false_eq_true, if_false]; exact hbad
end Go.Proofs.YtbkodnhnadkhdaaDoor.WalkFnExactPatch
end
