/- What the numbers of one to nine bytes come to: reading (the reference's and the program's) and writing (the reference's), over plain lists of bytes. Condition: the bytes are bytes, and at most 2^20 of them. -/
import Derived.Test.YtdjggipdjoopaaaDoorPFnx1
import Derived.Test.YtdjggipdjoopaaaDoorLib
namespace Go.Proofs.YtdjggipdjoopaaaDoor.Var
open Go Go.RowKit Go.Proofs.YtdjggipdjoopaaaDoor.PFn Go.Proofs.YtdjggipdjoopaaaDoorW.PrintWords Go.Proofs.YtdjggipdjoopaaaDoorW.PrintMore Go.Proofs.YtdjggipdjoopaaaDoor.Arith Go.Proofs.YtdjggipdjoopaaaDoor.Lib
set_option linter.unusedSimpArgs false
set_option linter.unusedVariables false

/-- The number whose seven-bit digits stand in the bytes, the lowest first. -/
def val : List Int → Int
  | [] => 0
  | b :: l => b % 128 + 128 * val l
/-- Where the first byte below 128 stands, among the first k. -/
def fs : Nat → List Int → Option Nat
  | 0, _ => none
  | _ + 1, [] => none
  | k + 1, b :: l => if b < 128 then some 0 else (fs k l).map (· + 1)
def gvr (l : List Int) : Int × Int := match fs 9 l with
  | none => (0, 0)
  | some n => if 0 < n ∧ rd l (n : Int) = 0 then (0, 0) else (val (l.take (n + 1)), ((n + 1 : Nat) : Int))

theorem val_range (l : List Int) : 0 ≤ val l ∧ val l < 128 ^ l.length := by
  induction l with
  | nil => simp [val]
  | cons b l ih =>
    simp only [val, List.length_cons, Int.pow_succ]
    have h0 : 0 ≤ b % 128 := Int.emod_nonneg _ (by decide)
    have h1 : b % 128 < 128 := Int.emod_lt_of_pos _ (by decide)
    omega
theorem val_snoc (l : List Int) (b : Int) : val (l ++ [b]) = val l + 128 ^ l.length * (b % 128) := by
  induction l with
  | nil => simp [val]
  | cons c l ih =>
    simp only [List.cons_append, val, ih, List.length_cons, Int.pow_succ]
    rw [Int.mul_add, Int.add_assoc, Int.mul_comm (128 ^ l.length) 128, Int.mul_assoc]
theorem take_rd (l : List Int) (i : Nat) (h : i < l.length) : l.take (i + 1) = l.take i ++ [rd l (i : Int)] := by
  rw [List.take_succ_eq_append_getElem h, rd_lt l i h]
theorem val_take (l : List Int) (i : Nat) (h : i < l.length) : val (l.take (i + 1)) = val (l.take i) + 128 ^ i * (rd l (i : Int) % 128) := by
  rw [take_rd l i h, val_snoc, List.length_take, Nat.min_eq_left (by omega)]
theorem val_take_range (l : List Int) (i : Nat) : 0 ≤ val (l.take i) ∧ val (l.take i) < 128 ^ i := by
  obtain ⟨h0, h1⟩ := val_range (l.take i)
  refine ⟨h0, Int.lt_of_lt_of_le h1 ?_⟩
  rw [List.length_take]
  have := Nat.pow_le_pow_right (n := 128) (by decide) (Nat.min_le_left i l.length)
  exact_mod_cast this

theorem fs_lt {k : Nat} {l : List Int} {n : Nat} (h : fs k l = some n) : n < k ∧ n < l.length := by
  induction k generalizing l n with
  | zero => simp [fs] at h
  | succ k ih =>
    cases l with
    | nil => simp [fs] at h
    | cons b l =>
      simp only [fs] at h
      split at h
      · obtain rfl := Option.some.inj h; simp
      · obtain ⟨m, hm, rfl⟩ := Option.map_eq_some_iff.1 h
        have := ih hm
        simp; omega
theorem fs_take {k m : Nat} {l : List Int} (h : k ≤ m) : fs k (l.take m) = fs k l := by
  induction k generalizing l m with
  | zero => rfl
  | succ k ih =>
    obtain ⟨m, rfl⟩ : ∃ q, m = q + 1 := ⟨m - 1, by omega⟩
    cases l with
    | nil => simp
    | cons b l =>
      simp only [List.take_succ_cons, fs]
      rw [ih (by omega)]
theorem rd_take (l : List Int) (i m : Nat) (h : i < m) : rd (l.take m) (i : Int) = rd l (i : Int) := by
  unfold rd
  simp only [Int.toNat_natCast, List.getD_eq_getElem?_getD, List.getElem?_take_of_lt h]
theorem gvr_take (l : List Int) : gvr (l.take 9) = gvr l := by
  unfold gvr
  rw [fs_take (Nat.le_refl 9)]
  cases h : fs 9 l with
  | none => rfl
  | some n =>
    have := fs_lt h
    simp only
    rw [rd_take l n 9 this.1, List.take_take, Nat.min_eq_left (by omega)]

/-- The reference's bytes of a number not below 0. -/
def pv : Nat → Int → List Int
  | 0, x => [x]
  | n + 1, x => if x < 128 then [x] else (128 + x % 128) :: pv n (x / 128)
theorem pv_small (n : Nat) {x : Int} (h : x < 128) : pv n x = [x] := by
  cases n with
  | zero => rfl
  | succ n => simp only [pv]; rw [if_pos h]
theorem pv_big (n : Nat) {x : Int} (h : ¬ x < 128) : pv (n + 1) x = (128 + x % 128) :: pv n (x / 128) := by
  simp only [pv]; rw [if_neg h]
theorem pv_len_pos (n : Nat) (x : Int) : 1 ≤ (pv n x).length := by
  cases n with
  | zero => simp [pv]
  | succ n => simp only [pv]; split <;> simp
/-- So many bytes as were read, just where the last is not a needless nought. -/
theorem pv_len (l : List Int) (hl : l ≠ []) (q : Nat) (hq : l.length ≤ q + 1) : ((pv q (val l)).length = l.length ↔ (l.length = 1 ∨ rd l ((l.length - 1 : Nat) : Int) % 128 ≠ 0)) ∧ (rd l ((l.length - 1 : Nat) : Int) % 128 ≠ 0 → 1 ≤ val l) ∧ (pv q (val l)).length ≤ l.length := by
  induction l generalizing q with
  | nil => exact absurd rfl hl
  | cons b l ih =>
    have b0 : 0 ≤ b % 128 := Int.emod_nonneg _ (by decide)
    have b1 : b % 128 < 128 := Int.emod_lt_of_pos _ (by decide)
    cases l with
    | nil =>
      have e : val [b] = b % 128 := by simp [val]
      have hp : pv q (b % 128) = [b % 128] := pv_small q b1
      rw [e, hp]
      refine ⟨by simp, fun h => ?_, by simp⟩
      have : rd [b] ((([b] : List Int).length - 1 : Nat) : Int) = b := by simp [rd]
      rw [this] at h
      omega
    | cons c l =>
      obtain ⟨q, rfl⟩ : ∃ p, q = p + 1 := ⟨q - 1, by simp at hq; omega⟩
      obtain ⟨h1, h2, h3⟩ := ih (by simp) q (by simp at hq ⊢; omega)
      have hr : rd (b :: c :: l) (((b :: c :: l).length - 1 : Nat) : Int) = rd (c :: l) (((c :: l).length - 1 : Nat) : Int) := by
        unfold rd
        simp
      have hv := (val_range (c :: l)).1
      have ev : val (b :: c :: l) = b % 128 + 128 * val (c :: l) := rfl
      rw [hr, ev]
      generalize hV : val (c :: l) = V at *
      have hlen : (b :: c :: l).length = (c :: l).length + 1 := rfl
      by_cases hz : V = 0
      · subst hz
        have hp : pv (q + 1) (b % 128 + 128 * 0) = [b % 128 + 128 * 0] := pv_small _ (by omega)
        rw [hp]
        have hlast : ¬ (rd (c :: l) (((c :: l).length - 1 : Nat) : Int) % 128 ≠ 0) := fun h => by have := h2 h; omega
        refine ⟨⟨fun h => ?_, fun h => ?_⟩, fun h => absurd h hlast, by simp⟩
        · simp at h
        · rcases h with h | h
          · simp at h
          · exact absurd h hlast
      · have hp : pv (q + 1) (b % 128 + 128 * V) = (128 + b % 128) :: pv q V := by
          rw [pv_big q (by omega), show (b % 128 + 128 * V) / 128 = V from by omega, show (b % 128 + 128 * V) % 128 = b % 128 from by omega]
        rw [hp, List.length_cons, hlen]
        refine ⟨⟨fun h => .inr ?_, fun h => ?_⟩, fun _ => by omega, by omega⟩
        · have h5 := h1.1 (by omega)
          rcases h5 with h5 | h5
          · intro h6
            have hl0 : l = [] := by simpa using h5
            subst hl0
            have : val [c] = V := hV
            simp [rd] at h6
            simp [val, h6] at this
            omega
          · exact h5
        · have : (pv q V).length = (c :: l).length := by
            rcases h with h | h
            · simp at h
            · exact h1.2 (.inr h)
          omega

section
end

theorem pow128_le {i : Nat} (h : i ≤ 9) : (128 : Int) ^ i ≤ 9223372036854775808 := by
  have : i = 0 ∨ i = 1 ∨ i = 2 ∨ i = 3 ∨ i = 4 ∨ i = 5 ∨ i = 6 ∨ i = 7 ∨ i = 8 ∨ i = 9 := by omega
  rcases this with h | h | h | h | h | h | h | h | h | h <;> subst h <;> decide
theorem pow128_pos (i : Nat) : (0 : Int) < 128 ^ i := by
  have := Nat.pow_pos (n := i) (show 0 < 128 by decide)
  exact_mod_cast this
theorem wraps_i64 (n : Int) (h₀ : 0 ≤ n) (h₁ : n < 2 ^ 63) : IntKind.i64.wrap n = n := by rw [IntKind.wrap_i64]; omega
theorem or_digit (x b : Int) (i : Nat) (hi : i < 9) (hx0 : 0 ≤ x) (hx1 : x < 128 ^ i) (hb0 : 0 ≤ b) (hb1 : b ≤ 255) :
    Go.bits .or .i64 x (shl .i64 (wrap64 (Go.bits .and .u8 b 127)) (wrap64 (7 * (i : Int)))) = x + 128 ^ i * (b % 128) := by
  have e1 : Go.bits .and .u8 b 127 = b % 128 := and_mask .u8 7 (by decide) b
  rw [e1, w64 (x := b % 128) (by omega) (by omega), w64 (x := 7 * (i : Int)) (by omega) (by omega)]
  have hp := pow128_pos i
  have hle := pow128_le (i := i + 1) (by omega)
  rw [Int.pow_succ] at hle
  have hs : shl .i64 (b % 128) (7 * (i : Int)) = 128 ^ i * (b % 128) := by
    unfold shl
    have e2 : min (7 * (i : Int)).toNat IntKind.i64.bits = 7 * i := by
      have : (7 * (i : Int)).toNat = 7 * i := by omega
      rw [this]; simp only [IntKind.bits]; omega
    rw [e2, show (2 : Int) ^ (7 * i) = 128 ^ i from by rw [Int.pow_mul]; rfl, Int.mul_comm]
    have h3 : 128 ^ i * (b % 128) ≤ 128 ^ i * 127 := Int.mul_le_mul_of_nonneg_left (by omega) (by omega)
    have h4 : 0 ≤ 128 ^ i * (b % 128) := Int.mul_nonneg (by omega) (by omega)
    rw [IntKind.wrap_i64]
    generalize 128 ^ i * (b % 128) = Y at *
    omega
  rw [hs, Arith.or_comm]
  have h3 : 128 ^ i * (b % 128) ≤ 128 ^ i * 127 := Int.mul_le_mul_of_nonneg_left (by omega) (by omega)
  have h4 : 0 ≤ 128 ^ i * (b % 128) := Int.mul_nonneg (by omega) (by omega)
  rw [bits_join .i64 63 (by decide) wraps_i64 (7 * i) _ x h4 ?_ ?_ hx0 ?_ ?_]
  · omega
  · rw [show (2 : Int) ^ (7 * i) = 128 ^ i from by rw [Int.pow_mul]; rfl]
    exact Int.mul_emod_right _ _
  · generalize 128 ^ i * (b % 128) = Y at *; omega
  · rw [show (2 : Int) ^ (7 * i) = 128 ^ i from by rw [Int.pow_mul]; rfl]; exact hx1
  · have : (128 : Int) ^ i ≤ 9223372036854775808 := pow128_le (by omega)
    omega

/-- What comes out from place i on, when all bytes ahead of it are 128 or more. -/
def res (l : List Int) (i : Nat) : Int × Int := match fs (9 - i) (l.drop i) with
  | none => (0, 0)
  | some n => if 0 < i + n ∧ rd l ((i + n : Nat) : Int) = 0 then (0, 0) else (val (l.take (i + n + 1)), ((i + n + 1 : Nat) : Int))
theorem res_zero (l : List Int) : res l 0 = gvr l := by unfold res gvr; simp
theorem res_end (l : List Int) (i : Nat) (h : l.length ≤ i ∨ 9 ≤ i) : res l i = (0, 0) := by
  unfold res
  rcases h with h | h
  · rw [List.drop_eq_nil_of_le h]
    cases 9 - i <;> rfl
  · rw [show 9 - i = 0 by omega]; rfl
theorem res_small (l : List Int) (i : Nat) (h : i < l.length) (h9 : i < 9) (hb : rd l (i : Int) < 128) : res l i = if 0 < i ∧ rd l (i : Int) = 0 then (0, 0) else (val (l.take (i + 1)), ((i + 1 : Nat) : Int)) := by
  unfold res
  rw [drop_rd l i h, show 9 - i = (8 - i) + 1 by omega]
  simp only [fs]
  rw [if_pos hb]
  simp
theorem res_big (l : List Int) (i : Nat) (h : i < l.length) (h9 : i < 9) (hb : ¬ rd l (i : Int) < 128) : res l i = res l (i + 1) := by
  unfold res
  rw [drop_rd l i h, show 9 - i = (8 - i) + 1 by omega]
  simp only [fs]
  rw [if_neg hb, show 9 - (i + 1) = 8 - i by omega]
  cases fs (8 - i) (l.drop (i + 1)) with
  | none => rfl
  | some n =>
    simp only [Option.map_some]
    rw [show i + (n + 1) = i + 1 + n by omega]

section
theorem read_loop (s : ByteArray) (d : Nat) : ∀ i : Nat, i + d = 9 → i ≤ s.size → Ev (fun k => impl_readVar.l0 k s (val ((bytesOf s).take i)) i) (res (bytesOf s) i) := by
  induction d with
  | zero =>
    intro i h hi
    rw [res_end _ _ (.inr (by omega))]
    refine Ev.step (f := fun k => impl_readVar.j1 k s (val ((bytesOf s).take i)) i false) (fun k => ?_) ?_
    · simp only [impl_readVar.l0]
      by_cases hlt : (i : Int) < (s.size : Int)
      · rw [if_pos hlt, decide_eq_false (by omega)]
      · rw [if_neg hlt]
    · refine ev_at fun k => ?_
      simp only [impl_readVar.j1]
      rw [if_neg (by simp)]
  | succ d ih =>
    intro i h hi
    by_cases hlt : i < s.size
    · have hb := bt_range s i
      have f0 : (0 : Int) ≤ (i : Int) := by omega
      have f1 : (i : Int) < (s.size : Int) := by omega
      have f2 : 0 ≤ wrap64 (7 * (i : Int)) := by rw [w64 (x := 7 * (i : Int)) (by omega) (by omega)]; omega
      have f3 : wrap64 ((i : Int) + 1) = ((i + 1 : Nat) : Int) := w64s i (by omega)
      have f4 : i < 9 := by omega
      have f5 : (i : Int) < 9 := by omega
      have hv := val_take_range (bytesOf s) i
      have hod := or_digit (val ((bytesOf s).take i)) (bt s i) i f4 hv.1 hv.2 hb.1 hb.2
      have hvt := val_take (bytesOf s) i (by rw [bytesOf_length]; exact hlt)
      rw [rd_bytesOf] at hvt
      have hl : i < (bytesOf s).length := by rw [bytesOf_length]; exact hlt
      generalize hX : Go.bits .or .i64 (val ((bytesOf s).take i)) (shl .i64 (wrap64 (Go.bits .and .u8 (bt s i) 127)) (wrap64 (7 * (i : Int)))) = X at hod
      rw [← hvt] at hod
      subst hod
      clear hv hvt
      by_cases hs : bt s i < 128
      · rw [res_small _ i hl f4 (by rw [rd_bytesOf]; exact hs), rd_bytesOf]
        refine Ev.step (f := fun k => impl_readVar.j1 k s (val ((bytesOf s).take i)) i true) (fun k => ?_) ?_
        · simp only [impl_readVar.l0]
          rw [if_pos f1, decide_eq_true f5]
        · refine ev_at fun k => ?_
          simp only [impl_readVar.j1]
          simp only [if_true]
          rw [if_pos f0, if_pos f1, if_pos f2, if_pos hs, hX, f3]
          by_cases hz : bt s i = 0
          · rw [if_pos hz]
            by_cases hi0 : 0 < i
            · rw [if_pos (by omega), if_pos ⟨hi0, hz⟩]
            · rw [if_neg (by omega), if_neg (fun h => hi0 h.1)]
          · rw [if_neg hz, if_neg (fun h => hz h.2)]
      · rw [res_big _ i hl f4 (by rw [rd_bytesOf]; exact hs)]
        refine Ev.step (f := fun k => impl_readVar.j1 k s (val ((bytesOf s).take i)) i true) (fun k => ?_) ?_
        · simp only [impl_readVar.l0]
          rw [if_pos f1, decide_eq_true f5]
        · refine Ev.step (fun k => ?_) (ih (i + 1) (by omega) (by omega))
          simp only [impl_readVar.j1]
          simp only [if_true]
          rw [if_pos f0, if_pos f1, if_pos f2, if_neg hs, hX, f3]
    · rw [res_end _ _ (.inl (by rw [bytesOf_length]; omega))]
      refine Ev.step (f := fun k => impl_readVar.j1 k s (val ((bytesOf s).take i)) i false) (fun k => ?_) ?_
      · simp only [impl_readVar.l0]
        rw [if_neg (by omega)]
      · refine ev_at fun k => ?_
        simp only [impl_readVar.j1]
        rw [if_neg (by simp)]
theorem read_ev (s : ByteArray) : Ev (fun k => impl_readVar.f k s) (gvr (bytesOf s)) := by
  have := read_loop s 9 0 (by omega) (by omega)
  rw [res_zero] at this
  simpa [val, impl_readVar.f] using this
end

section
end

end Go.Proofs.YtdjggipdjoopaaaDoor.Var
