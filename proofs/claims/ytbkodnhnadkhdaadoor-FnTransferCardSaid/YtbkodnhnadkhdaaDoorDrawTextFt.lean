/- The draws' cursor: whatever the code's bytes are, a byte, a number below n and a choice come out, and the cursor stays in its list. Condition: the code is not longer than 2^20. -/
import Derived.Test.YtbkodnhnadkhdaaDoorPFtx4
import Derived.Test.YtbkodnhnadkhdaaDoorLib
import Derived.KernelRfl
section
/- The draws' cursor: whatever the code's bytes are, a byte, a number below n and a choice come out, and the cursor stays in its list. Condition: the code is not longer than 2^20. -/
namespace Go.Proofs.YtbkodnhnadkhdaaDoor.Draw
open Go Go.RowKit Go.Proofs.YtbkodnhnadkhdaaDoor.PFt Go.Proofs.YtbkodnhnadkhdaaDoorW.PrintWords Go.Proofs.YtbkodnhnadkhdaaDoor.Arith Go.Proofs.YtbkodnhnadkhdaaDoor.Lib
set_option linter.unusedSimpArgs false
set_option linter.unusedVariables false

def Cur (l : List Int) (i : Int) : Prop := 0 ≤ i ∧ i ≤ l.length ∧ l.length ≤ 1048576
theorem byte_some {l : List Int} {i : Int} (h : Int) (hc : Cur l i) : ∃ b i' h', spec_l01Byte.f l i h = some (b, i', h') ∧ 0 ≤ b ∧ b ≤ 255 ∧ Cur l i' := by
  obtain ⟨h0, h1, h2⟩ := hc
  unfold spec_l01Byte.f
  by_cases hi : i < (l.length : Int)
  · rw [if_pos hi, if_pos h0]
    refine ⟨_, _, _, rfl, ?_, ?_, ?_⟩
    · rw [and255]; omega
    · rw [and255]; omega
    · rw [w64 (by omega) (by omega)]; exact ⟨by omega, by omega, h2⟩
  · rw [if_neg hi]
    refine ⟨_, _, _, rfl, ?_, ?_, ⟨h0, h1, h2⟩⟩
    · rw [and255]; omega
    · rw [and255]; omega
theorem below_some {l : List Int} {i : Int} (h n : Int) (hc : Cur l i) : ∃ r i' h', spec_l01Below.f l i h n = some (r, i', h') ∧ 0 ≤ r ∧ (0 < n → r < n) ∧ (n ≤ 0 → r = 0) ∧ Cur l i' := by
  unfold spec_l01Below.f
  by_cases h0 : n ≤ 0
  · rw [if_pos h0]; exact ⟨_, _, _, rfl, by omega, fun _ => by omega, fun _ => rfl, hc⟩
  rw [if_neg h0]
  by_cases h1 : n ≤ 256
  · rw [if_pos h1]
    obtain ⟨b, i', h', e, b0, b1, hc'⟩ := byte_some h hc
    rw [e]
    simp only [Option.bind_some]
    rw [if_neg (by omega)]
    refine ⟨_, _, _, rfl, ?_, fun _ => ?_, fun _ => by omega, hc'⟩
    · exact Int.tmod_nonneg _ b0
    · exact Int.tmod_lt_of_pos _ (by omega)
  · rw [if_neg h1]
    obtain ⟨a, i1, h1', e1, a0, a1, hc1⟩ := byte_some h hc
    obtain ⟨b, i2, h2', e2, b0, b1, hc2⟩ := byte_some h1' hc1
    obtain ⟨c, i3, h3', e3, c0, c1, hc3⟩ := byte_some h2' hc2
    obtain ⟨d, i4, h4', e4, d0, d1, hc4⟩ := byte_some h3' hc3
    rw [e1]; simp only [Option.bind_some]
    rw [e2]; simp only [Option.bind_some]
    rw [e3]; simp only [Option.bind_some]
    rw [e4]; simp only [Option.bind_some]
    rw [if_neg (by omega)]
    refine ⟨_, _, _, rfl, ?_, fun _ => ?_, fun _ => by omega, hc4⟩
    · rw [w64 (x := a * 16777216) (by omega) (by omega), w64 (x := b * 65536) (by omega) (by omega), w64 (x := c * 256) (by omega) (by omega), w64 (x := a * 16777216 + b * 65536) (by omega) (by omega), w64 (x := a * 16777216 + b * 65536 + c * 256) (by omega) (by omega), w64 (by omega) (by omega)]
      exact Int.tmod_nonneg _ (by omega)
    · exact Int.tmod_lt_of_pos _ (by omega)
theorem once_some {l : List Int} {i : Int} (h n : Int) (hc : Cur l i) : ∃ r i' h', spec_l01Once.f l i h n = some (r, i', h') ∧ Cur l i' := by
  obtain ⟨r, i', h', e, _, _, _, hc'⟩ := below_some h n hc
  unfold spec_l01Once.f
  rw [e]
  exact ⟨_, _, _, rfl, hc'⟩
theorem new_loop (l : List Int) (hl : l.length ≤ 1048576) (d : Nat) : ∀ (i : Nat) (h : Int), i + d = l.length → ∃ h', Ev (fun k => spec_l01New.l0 k l h i) (l, 0, h') := by
  induction d with
  | zero =>
    intro i h e
    refine ⟨h, ev_at fun k => ?_⟩
    simp only [spec_l01New.l0]
    rw [if_neg (by omega)]
  | succ d ih =>
    intro i h e
    by_cases h4 : i < 4000
    · obtain ⟨h', he⟩ := ih (i + 1) (bits .and .i64 (wrap64 ((wrap64 ((wrap64 (h * 131)) + (wrap64 (rd l i)))) + 7)) 1073741823) (by omega)
      refine ⟨h', Ev.step (fun k => ?_) he⟩
      simp only [spec_l01New.l0]
      rw [if_pos (by omega), if_pos (by omega), if_pos (by omega), w64s i (by omega)]
    · refine ⟨h, ev_at fun k => ?_⟩
      simp only [spec_l01New.l0]
      rw [if_pos (by omega), if_neg (by omega)]
theorem new_ev (l : List Int) (hl : l.length ≤ 1048576) : ∃ h', Ev (fun k => spec_l01New.f k l) (l, 0, h') := new_loop l hl l.length 0 _ (by omega)
theorem cur_new (l : List Int) (hl : l.length ≤ 1048576) : Cur l 0 := ⟨by omega, by omega, hl⟩

end Go.Proofs.YtbkodnhnadkhdaaDoor.Draw
end

section
/- The draws' generator: h, h * a + c, .. modulo 2^64 comes by every number: so it comes by 33, behind which six bytes in a row are of a good kind. Plain law. No condition. -/
namespace Go.Proofs.YtbkodnhnadkhdaaDoor.Lcg
open Go Go.RowKit Go.Proofs.YtbkodnhnadkhdaaDoorW.PrintWords Go.Proofs.YtbkodnhnadkhdaaDoor.Arith Go.Proofs.YtbkodnhnadkhdaaDoor.Lib
set_option linter.unusedVariables false

def nx (h : Int) : Int := wrap64 ((wrap64 (h * 6364136223846793005)) + 1442695040888963407)
def ob (h : Int) : Int := bits .and .i64 (bits .xor .i64 (h / 8589934592) (h / 35184372088832)) 255
def it : Nat → Int → Int
  | 0, h => h
  | n + 1, h => it n (nx h)
theorem it_add (m n : Nat) : ∀ h, it (m + n) h = it n (it m h) := by
  induction m with
  | zero => intro h; rw [Nat.zero_add]; rfl
  | succ m ih => intro h; rw [show m + 1 + n = (m + n) + 1 by omega]; exact ih (nx h)
theorem it_succ (n : Nat) (h : Int) : it (n + 1) h = nx (it n h) := it_add n 1 h
def R (h : Int) : Prop := -9223372036854775808 ≤ h ∧ h < 9223372036854775808
theorem nx_R (h : Int) : R (nx h) := w64_range _
theorem it_R (n : Nat) (h : Int) (hr : R h) : R (it n h) := by
  cases n with
  | zero => exact hr
  | succ n => rw [it_succ]; exact nx_R _
/-- The same modulo 2^64. -/
def Eqm (x y : Int) : Prop := ∃ q, x - y = 18446744073709551616 * q
theorem wrap_m (x : Int) : Eqm (wrap64 x) x := by
  unfold wrap64
  refine ⟨-((x + 9223372036854775808) / 18446744073709551616), ?_⟩
  have := Int.emod_add_mul_ediv (x + 9223372036854775808) 18446744073709551616
  omega
theorem nx_m (h : Int) : Eqm (nx h) (6364136223846793005 * h + 1442695040888963407) := by
  obtain ⟨q, hq⟩ := wrap_m (wrap64 (h * 6364136223846793005) + 1442695040888963407)
  obtain ⟨q', hq'⟩ := wrap_m (h * 6364136223846793005)
  exact ⟨q + q', by unfold nx; omega⟩
theorem Eqm.trans {x y z : Int} (h : Eqm x y) (k : Eqm y z) : Eqm x z := by
  obtain ⟨q, hq⟩ := h
  obtain ⟨r, hr⟩ := k
  exact ⟨q + r, by omega⟩
theorem Eqm.lin {x y : Int} (a b : Int) (h : Eqm x y) : Eqm (a * x + b) (a * y + b) := by
  obtain ⟨q, hq⟩ := h
  refine ⟨a * q, ?_⟩
  have : x = y + 18446744073709551616 * q := by omega
  subst this
  grind

/-- 2^k rounds at once. -/
theorem rounds (k : Nat) : ∃ u v : Int, ∀ x, Eqm (it (2 ^ k) x) ((1 + 4 * (2 : Int) ^ k * u) * x + (2 : Int) ^ k * (1 + 2 * v)) := by
  induction k with
  | zero => exact ⟨1591034055961698251, 721347520444481703, fun x => (nx_m x).trans ⟨0, by simp⟩⟩
  | succ k ih =>
    obtain ⟨u, v, h⟩ := ih
    refine ⟨u + 2 * (2 : Int) ^ k * u * u, v + (2 : Int) ^ k * u * (1 + 2 * v), fun x => ?_⟩
    have e : it (2 ^ (k + 1)) x = it (2 ^ k) (it (2 ^ k) x) := by rw [Nat.pow_succ, show 2 ^ k * 2 = 2 ^ k + 2 ^ k by omega, it_add]
    rw [e]
    refine (h _).trans (((h x).lin _ _).trans ⟨0, ?_⟩)
    rw [Int.pow_succ]
    generalize (2 : Int) ^ k = p
    grind

/-- Every number is come by, modulo 2^k. -/
theorem reach (h t : Int) (k : Nat) : k ≤ 64 → ∃ n, ∃ q, it n h - t = (2 : Int) ^ k * q := by
  induction k with
  | zero => intro _; exact ⟨0, it 0 h - t, by simp⟩
  | succ k ih =>
    intro hk
    obtain ⟨n, q, hq⟩ := ih (by omega)
    rcases Int.emod_two_eq q with hz | ho
    · refine ⟨n, q / 2, ?_⟩
      rw [hq, Int.pow_succ, Int.mul_assoc]
      congr 1
      omega
    · obtain ⟨u, v, hr⟩ := rounds k
      obtain ⟨r, hr⟩ := hr (it n h)
      have hM : ∃ M : Int, (18446744073709551616 : Int) = (2 : Int) ^ (k + 1) * M := ⟨(2 : Int) ^ (63 - k), by rw [← Int.pow_add, show k + 1 + (63 - k) = 64 by omega]; rfl⟩
      obtain ⟨M, hM⟩ := hM
      obtain ⟨w, hw⟩ : ∃ w, q = 2 * w + 1 := ⟨q / 2, by omega⟩
      refine ⟨n + 2 ^ k, w + 1 + 2 * u * it n h + v + M * r, ?_⟩
      rw [it_add]
      rw [hM] at hr
      rw [Int.pow_succ] at hr ⊢
      generalize (2 : Int) ^ k = p at *
      generalize it (2 ^ k) (it n h) = y at *
      generalize it n h = x at *
      grind
theorem reach_all (h t : Int) (hh : R h) (ht : R t) : ∃ n, it n h = t := by
  obtain ⟨n, q, hq⟩ := reach h t 64 (Nat.le_refl _)
  refine ⟨n, ?_⟩
  have hr := it_R n h hh
  unfold R at hr ht
  have e : (2 : Int) ^ 64 = 18446744073709551616 := by decide
  rw [e] at hq
  omega

/-- The byte behind a state leads to one more letter. -/
def tame (h : Int) : Bool := Int.tmod (ob (nx h)) 5 == 0 || Int.tmod (ob (nx h)) 5 == 3 || Int.tmod (ob (nx h)) 5 == 4
theorem tame33 : ∀ j : Fin 6, tame (it j.val 33) = true := by decide +kernel

end Go.Proofs.YtbkodnhnadkhdaaDoor.Lcg
end

section
/- A drawn text: the loop ends (the generator comes by a place where every way adds a letter), and the text is as long as it was asked for. Condition: the code is not longer than 2^20, the text not than 300. -/
namespace Go.Proofs.YtbkodnhnadkhdaaDoor.DrawText
open Go Go.RowKit Go.Proofs.YtbkodnhnadkhdaaDoor.PFt Go.Proofs.YtbkodnhnadkhdaaDoorW.PrintWords Go.Proofs.YtbkodnhnadkhdaaDoor.Arith Go.Proofs.YtbkodnhnadkhdaaDoor.Lib Go.Proofs.YtbkodnhnadkhdaaDoor.Draw Go.Proofs.YtbkodnhnadkhdaaDoor.Lcg
set_option linter.unusedSimpArgs false
set_option linter.unusedVariables false

def Adv (l : List Int) (i i' : Int) : Prop := Cur l i' ∧ (i < l.length → i < i') ∧ (i = l.length → i' = i)
theorem Adv.trans {l : List Int} {a b c : Int} (h : Adv l a b) (k : Adv l b c) : Adv l a c := by
  obtain ⟨h1, h2, h3⟩ := h
  obtain ⟨k1, k2, k3⟩ := k
  obtain ⟨_, q, _⟩ := h1
  refine ⟨k1, fun ha => ?_, fun ha => ?_⟩
  · have := h2 ha
    by_cases hb : b < l.length
    · have := k2 hb; omega
    · have := k3 (by omega); omega
  · have := h3 ha
    have := k3 (by omega); omega
theorem byte_ex {l : List Int} {i : Int} (h : Int) (hc : Cur l i) : ∃ b i', spec_l01Byte.f l i h = some (b, i', nx h) ∧ 0 ≤ b ∧ b ≤ 255 ∧ Adv l i i' ∧ (i = l.length → b = ob (nx h)) := by
  obtain ⟨h0, h1, h2⟩ := hc
  unfold spec_l01Byte.f
  by_cases hi : i < (l.length : Int)
  · rw [if_pos hi, if_pos h0, w64 (x := i + 1) (by omega) (by omega)]
    refine ⟨_, _, rfl, ?_, ?_, ⟨⟨by omega, by omega, h2⟩, fun _ => by omega, fun _ => by omega⟩, fun _ => by omega⟩
    · rw [and255]; omega
    · rw [and255]; omega
  · rw [if_neg hi]
    refine ⟨_, _, rfl, ?_, ?_, ⟨⟨h0, h1, h2⟩, fun _ => by omega, fun _ => rfl⟩, fun _ => rfl⟩
    · rw [and255]; omega
    · rw [and255]; omega
theorem below_small {l : List Int} {i : Int} (h : Int) (hc : Cur l i) (n : Int) (h1 : 1 ≤ n) (h2 : n ≤ 256) : ∃ b i', spec_l01Below.f l i h n = some (Int.tmod b n, i', nx h) ∧ 0 ≤ b ∧ b ≤ 255 ∧ Adv l i i' ∧ (i = l.length → b = ob (nx h)) := by
  obtain ⟨b, i', e, r⟩ := byte_ex h hc
  refine ⟨b, i', ?_, r⟩
  unfold spec_l01Below.f
  rw [if_neg (by omega), if_pos h2, e]
  simp only [Option.bind_some]
  rw [if_neg (by omega)]
theorem below_any {l : List Int} {i : Int} (h : Int) (hc : Cur l i) (n : Int) (h1 : 1 ≤ n) : ∃ r i' m, spec_l01Below.f l i h n = some (r, i', it m h) ∧ 1 ≤ m ∧ m ≤ 4 ∧ 0 ≤ r ∧ r < n ∧ Adv l i i' := by
  by_cases h2 : n ≤ 256
  · obtain ⟨b, i', e, b0, b1, ha, _⟩ := below_small h hc n h1 h2
    exact ⟨_, i', 1, e, by omega, by omega, Int.tmod_nonneg _ b0, Int.tmod_lt_of_pos _ (by omega), ha⟩
  · obtain ⟨r, i0, h0, e0, r0, r1, _, _⟩ := below_some h n hc
    obtain ⟨a, i1, e1, a0, a1, ha1, _⟩ := byte_ex h hc
    obtain ⟨b, i2, e2, b0, b1, ha2, _⟩ := byte_ex (nx h) ha1.1
    obtain ⟨c, i3, e3, c0, c1, ha3, _⟩ := byte_ex (nx (nx h)) ha2.1
    obtain ⟨d, i4, e4, d0, d1, ha4, _⟩ := byte_ex (nx (nx (nx h))) ha3.1
    refine ⟨r, i4, 4, ?_, by omega, by omega, r0, r1 (by omega), ((ha1.trans ha2).trans ha3).trans ha4⟩
    have hk := e0
    unfold spec_l01Below.f at hk
    rw [if_neg (by omega), if_neg h2, e1] at hk
    simp only [Option.bind_some] at hk
    rw [e2] at hk
    simp only [Option.bind_some] at hk
    rw [e3] at hk
    simp only [Option.bind_some] at hk
    rw [e4] at hk
    simp only [Option.bind_some] at hk
    rw [if_neg (by omega)] at hk
    simp only [Option.some.injEq, Prod.mk.injEq] at hk
    rw [e0, ← hk.2.1, ← hk.2.2]
    rfl

theorem run1 (n : Int) (l : List Int) (i h : Int) (cnt : Nat) (x : Int) (hcnt : cnt ≤ 100) (d : Nat) : ∀ (j : Nat) (x5 : List Int), j + d = cnt → x5.length + d ≤ 1000 → ∀ r, Ev (fun k => spec_l01Text.l0 k n (x5 ++ List.replicate d x) l i h) r → Ev (fun k => spec_l01Text.l1 k n x5 cnt x j l i h) r := by
  induction d with
  | zero =>
    intro j x5 hj hx r hr
    simp only [List.replicate_zero, List.append_nil] at hr
    refine Ev.step (fun k => ?_) hr
    simp only [spec_l01Text.l1]
    rw [if_neg (by omega)]
  | succ d ih =>
    intro j x5 hj hx r hr
    refine Ev.step (fun k => ?_) (ih (j + 1) (x5 ++ [x]) (by omega) (by rw [List.length_append]; simp; omega) r ?_)
    · simp only [spec_l01Text.l1]
      rw [if_pos (by omega), if_pos (by omega), w64 (by omega) (by omega)]
      rfl
    · rw [List.replicate_succ] at hr
      simpa using hr
theorem run2 (n : Int) (l : List Int) (i h : Int) (cnt p : Nat) (hcnt : cnt ≤ 100) (d : Nat) : ∀ (j : Nat) (x5 : List Int), j + d = cnt → x5.length + d ≤ 1000 → p + j < x5.length → ∃ ys : List Int, ys.length = d ∧ ∀ r, Ev (fun k => spec_l01Text.l0 k n (x5 ++ ys) l i h) r → Ev (fun k => spec_l01Text.l2 k n x5 p cnt j l i h) r := by
  induction d with
  | zero =>
    intro j x5 hj hx hp
    refine ⟨[], rfl, fun r hr => ?_⟩
    rw [List.append_nil] at hr
    refine Ev.step (fun k => ?_) hr
    simp only [spec_l01Text.l2]
    rw [if_neg (by omega)]
  | succ d ih =>
    intro j x5 hj hx hp
    obtain ⟨ys, hy, hk⟩ := ih (j + 1) (x5 ++ [rd x5 ((p : Int) + (j : Int))]) (by omega) (by rw [List.length_append]; simp; omega) (by rw [List.length_append]; simp; omega)
    refine ⟨rd x5 ((p : Int) + (j : Int)) :: ys, by simp [hy], fun r hr => ?_⟩
    refine Ev.step (fun k => ?_) (hk r (by simpa using hr))
    simp only [spec_l01Text.l2]
    rw [if_pos (by omega), w64 (x := (p : Int) + (j : Int)) (by omega) (by omega), if_pos (by omega), if_pos (by omega), if_pos (by omega), w64 (by omega) (by omega)]
    rfl

def Done (n : Nat) (l : List Int) (x5 : List Int) (i h : Int) : Prop := ∃ s i' h', Ev (fun k => spec_l01Text.l0 k n x5 l i h) (s, i', h') ∧ s.size = n ∧ Cur l i'

theorem round (n : Nat) (hn : n ≤ 300) (l x5 : List Int) (hx : x5.length < n) (K : ∀ (x5' : List Int) (i h : Int), x5.length < x5'.length → x5'.length ≤ 400 → Cur l i → Done n l x5' i h) (i h : Int) (hc : Cur l i) :
    Done n l x5 i h ∨ ∃ m i', 1 ≤ m ∧ m ≤ 6 ∧ Adv l i i' ∧ (i = l.length → tame h = false) ∧ (Done n l x5 i' (it m h) → Done n l x5 i h) := by
  obtain ⟨b, i1, e1, b0, b1, ha1, hb⟩ := below_small h hc 5 (by omega) (by omega)
  have hm0 := Int.tmod_nonneg 5 b0
  have hm1 := Int.tmod_lt_of_pos b (show (0 : Int) < 5 by omega)
  by_cases c0 : Int.tmod b 5 = 0
  · left
    obtain ⟨b', i2, e2, _, _, ha2, _⟩ := byte_ex (nx h) ha1.1
    obtain ⟨s, i', h', hs⟩ := K (x5 ++ [b' % 256]) i2 (nx (nx h)) (by simp) (by simp; omega) ha2.1
    refine ⟨s, i', h', Ev.step (fun k => ?_) hs.1, hs.2⟩
    simp only [spec_l01Text.l0]
    rw [if_pos (by omega), e1]
    simp only [Option.bind_some]
    rw [if_pos c0, e2]
    simp only [Option.bind_some]
    rw [if_pos (by omega)]
  by_cases c1 : Int.tmod b 5 = 1
  · obtain ⟨b', i2, e2, b0', b1', ha2, _⟩ := below_small (nx h) ha1.1 9 (by omega) (by omega)
    obtain ⟨b'', i3, e3, _, _, ha3, _⟩ := below_small (nx (nx h)) ha2.1 4 (by omega) (by omega)
    have q0 := Int.tmod_nonneg 9 b0'
    have q1 := Int.tmod_lt_of_pos b' (show (0 : Int) < 9 by omega)
    obtain ⟨cnt, hcnt⟩ : ∃ cnt : Nat, Int.tmod b' 9 = cnt := ⟨(Int.tmod b' 9).toNat, by omega⟩
    have back : ∀ r, Ev (fun k => spec_l01Text.l0 k n (x5 ++ List.replicate cnt ((wrap64 (97 + Int.tmod b'' 4)) % 256)) l i3 (nx (nx (nx h)))) r → Ev (fun k => spec_l01Text.l0 k n x5 l i h) r := by
      intro r hr
      refine Ev.step (fun k => ?_) (run1 n l i3 (nx (nx (nx h))) cnt ((wrap64 (97 + Int.tmod b'' 4)) % 256) (by omega) cnt 0 x5 (by omega) (by omega) r hr)
      simp only [spec_l01Text.l0]
      rw [if_pos (by omega), e1]
      simp only [Option.bind_some]
      rw [if_neg c0, if_pos c1, e2]
      simp only [Option.bind_some]
      rw [e3]
      simp only [Option.bind_some]
      rw [hcnt]
      rfl
    by_cases hz : cnt = 0
    · right
      subst hz
      refine ⟨3, i3, by omega, by omega, (ha1.trans ha2).trans ha3, fun hi => ?_, fun ⟨s, i', h', hs⟩ => ⟨s, i', h', back _ ?_, hs.2⟩⟩
      · unfold tame
        rw [← hb hi, c1]
        rfl
      · rw [List.replicate_zero, List.append_nil]; exact hs.1
    · left
      obtain ⟨s, i', h', hs⟩ := K (x5 ++ List.replicate cnt ((wrap64 (97 + Int.tmod b'' 4)) % 256)) i3 (nx (nx (nx h))) (by simp; omega) (by simp; omega) ha3.1
      exact ⟨s, i', h', back _ hs.1, hs.2⟩
  by_cases c2 : Int.tmod b 5 = 2
  · have ht : i = l.length → tame h = false := fun hi => by
      unfold tame
      rw [← hb hi, c2]
      rfl
    by_cases hl : x5.length = 0
    · right
      refine ⟨1, i1, by omega, by omega, ha1, ht, fun ⟨s, i', h', hs⟩ => ⟨s, i', h', Ev.step (fun k => ?_) hs.1, hs.2⟩⟩
      simp only [spec_l01Text.l0]
      rw [if_pos (by omega), e1]
      simp only [Option.bind_some]
      rw [if_neg c0, if_neg c1, if_pos c2, if_neg (by omega)]
      rfl
    · obtain ⟨p, i2, m2, e2, m20, m21, p0, p1, ha2⟩ := below_any (nx h) ha1.1 x5.length (by omega)
      obtain ⟨b', i3, e3, b0', b1', ha3, _⟩ := below_small (it m2 (nx h)) ha2.1 20 (by omega) (by omega)
      have q0 := Int.tmod_nonneg 20 b0'
      have q1 := Int.tmod_lt_of_pos b' (show (0 : Int) < 20 by omega)
      obtain ⟨cnt, hcnt⟩ : ∃ cnt : Nat, Int.tmod b' 20 = cnt := ⟨(Int.tmod b' 20).toNat, by omega⟩
      obtain ⟨pn, hpn⟩ : ∃ pn : Nat, p = pn := ⟨p.toNat, by omega⟩
      subst hpn
      obtain ⟨ys, hy, hr2⟩ := run2 n l i3 (nx (it m2 (nx h))) cnt pn (by omega) cnt 0 x5 (by omega) (by omega) (by omega)
      have back : ∀ r, Ev (fun k => spec_l01Text.l0 k n (x5 ++ ys) l i3 (nx (it m2 (nx h)))) r → Ev (fun k => spec_l01Text.l0 k n x5 l i h) r := by
        intro r hr
        refine Ev.step (fun k => ?_) (hr2 r hr)
        simp only [spec_l01Text.l0]
        rw [if_pos (by omega), e1]
        simp only [Option.bind_some]
        rw [if_neg c0, if_neg c1, if_pos c2, if_pos (by omega), e2]
        simp only [Option.bind_some]
        rw [e3]
        simp only [Option.bind_some]
        rw [hcnt]
        rfl
      by_cases hz : cnt = 0
      · right
        have hys : ys = [] := List.eq_nil_of_length_eq_zero (by omega)
        rw [hys, List.append_nil] at back
        refine ⟨m2 + 2, i3, by omega, by omega, (ha1.trans ha2).trans ha3, ht, fun ⟨s, i', h', hs⟩ => ⟨s, i', h', back _ ?_, hs.2⟩⟩
        have e : it (m2 + 2) h = nx (it m2 (nx h)) := by
          rw [show m2 + 2 = (m2 + 1) + 1 by omega, it_succ]; rfl
        rw [e] at hs
        exact hs.1
      · left
        obtain ⟨s, i', h', hs⟩ := K (x5 ++ ys) i3 (nx (it m2 (nx h))) (by simp; omega) (by simp; omega) ha3.1
        exact ⟨s, i', h', back _ hs.1, hs.2⟩
  · left
    obtain ⟨b', i2, e2, _, _, ha2, _⟩ := below_small (nx h) ha1.1 26 (by omega) (by omega)
    obtain ⟨s, i', h', hs⟩ := K (x5 ++ [(wrap64 (97 + Int.tmod b' 26)) % 256]) i2 (nx (nx h)) (by simp) (by simp; omega) ha2.1
    refine ⟨s, i', h', Ev.step (fun k => ?_) hs.1, hs.2⟩
    simp only [spec_l01Text.l0]
    rw [if_pos (by omega), e1]
    simp only [Option.bind_some]
    rw [if_neg c0, if_neg c1, if_neg c2, e2]
    simp only [Option.bind_some]
    rw [if_pos (by omega)]

/-- Behind the code's end: the generator comes by 33. -/
theorem end_ (n : Nat) (hn : n ≤ 300) (l x5 : List Int) (hl : l.length ≤ 1048576) (hx : x5.length < n) (K : ∀ (x5' : List Int) (i h : Int), x5.length < x5'.length → x5'.length ≤ 400 → Cur l i → Done n l x5' i h) (N : Nat) :
    ∀ h, ((1 ≤ N ∧ it N h = 33) ∨ ∃ j, j ≤ 5 ∧ h = it j 33) → Done n l x5 l.length h := by
  induction N using Nat.strongRecOn with
  | _ N ih =>
    intro h hN
    rcases round n hn l x5 hx K l.length h ⟨by omega, by omega, hl⟩ with hd | ⟨m, i', m1, m6, ha, ht, back⟩
    · exact hd
    · have ht := ht rfl
      obtain rfl := ha.2.2 rfl
      rcases hN with ⟨n1, h33⟩ | ⟨j, j5, rfl⟩
      · apply back
        by_cases hm : m < N
        · refine ih (N - m) (by omega) _ (.inl ⟨by omega, ?_⟩)
          rw [← it_add, show m + (N - m) = N by omega, h33]
        · refine ih 0 (by omega) _ (.inr ⟨m - N, by omega, ?_⟩)
          rw [← h33, ← it_add, show N + (m - N) = m by omega]
      · have := tame33 ⟨j, by omega⟩
        rw [this] at ht
        cases ht
theorem within (n : Nat) (hn : n ≤ 300) (l x5 : List Int) (hl : l.length ≤ 1048576) (hx : x5.length < n) (K : ∀ (x5' : List Int) (i h : Int), x5.length < x5'.length → x5'.length ≤ 400 → Cur l i → Done n l x5' i h) (d : Nat) :
    ∀ i h, Cur l i → (l.length : Int) - i ≤ d → Done n l x5 i h := by
  induction d with
  | zero =>
    intro i h hc hd
    obtain ⟨h0, h1, h2⟩ := hc
    obtain rfl : i = l.length := by omega
    obtain ⟨N, hN⟩ := reach_all (nx h) 33 (nx_R h) (by unfold R; omega)
    exact end_ n hn l x5 hl hx K (N + 1) h (.inl ⟨by omega, hN⟩)
  | succ d ih =>
    intro i h hc hd
    by_cases hi : i < l.length
    · rcases round n hn l x5 hx K i h hc with hdn | ⟨m, i', m1, m6, ha, ht, back⟩
      · exact hdn
      · have := ha.2.1 hi
        exact back (ih i' _ ha.1 (by omega))
    · obtain ⟨h0, h1, h2⟩ := hc
      exact ih i h ⟨h0, h1, h2⟩ (by omega)
theorem text_loop (n : Nat) (hn : n ≤ 300) (l : List Int) (hl : l.length ≤ 1048576) (d : Nat) : ∀ (x5 : List Int) (i h : Int), n ≤ x5.length + d → x5.length ≤ 400 → Cur l i → Done n l x5 i h := by
  induction d with
  | zero =>
    intro x5 i h hd hx hc
    refine ⟨strOfNums (x5.take n), i, h, ev_at fun k => ?_, ?_, hc⟩
    · simp only [spec_l01Text.l0]
      rw [if_neg (by omega), if_pos (by omega), if_pos (by omega), Int.toNat_natCast]
    · rw [strOfNums_size, List.length_take]; omega
  | succ d ih =>
    intro x5 i h hd hx hc
    by_cases hlt : x5.length < n
    · exact within n hn l x5 hl hlt (fun x5' i' h' h1 h2 hc' => ih x5' i' h' (by omega) h2 hc') l.length i h hc (by obtain ⟨a, b, c⟩ := hc; omega)
    · exact ih x5 i h (by omega) hx hc
/-- A text of n letters is drawn. -/
theorem text_some {l : List Int} {i : Int} (h : Int) (hc : Cur l i) (n : Int) (h0 : 0 ≤ n) (h1 : n ≤ 300) : ∃ s i' h', Ev (fun k => spec_l01Text.f k l i h n) (s, i', h') ∧ (s.size : Int) = n ∧ Cur l i' := by
  obtain ⟨m, rfl⟩ : ∃ m : Nat, n = m := ⟨n.toNat, by omega⟩
  obtain ⟨s, i', h', e, hs, hc'⟩ := text_loop m (by omega) l hc.2.2 m [] i h (by simp) (by simp) hc
  exact ⟨s, i', h', e, by omega, hc'⟩

end Go.Proofs.YtbkodnhnadkhdaaDoor.DrawText
end
