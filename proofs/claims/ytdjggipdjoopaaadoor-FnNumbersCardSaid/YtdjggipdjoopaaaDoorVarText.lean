/- What varText writes: the reference's bytes of a number. Condition: the number is not below 0 and an int. -/
import Derived.Test.YtdjggipdjoopaaaDoorPFnx2
import Derived.Test.YtdjggipdjoopaaaDoorVar
namespace Go.Proofs.YtdjggipdjoopaaaDoor.VarText
open Go Go.RowKit Go.Proofs.YtdjggipdjoopaaaDoor.PFn Go.Proofs.YtdjggipdjoopaaaDoorW.PrintWords Go.Proofs.YtdjggipdjoopaaaDoorW.PrintMore Go.Proofs.YtdjggipdjoopaaaDoor.Arith Go.Proofs.YtdjggipdjoopaaaDoor.Lib Go.Proofs.YtdjggipdjoopaaaDoor.Var
set_option linter.unusedSimpArgs false
set_option linter.unusedVariables false

theorem wrap_u8 (n : Int) (h₀ : 0 ≤ n) (h₁ : n < 2 ^ 8) : IntKind.u8.wrap n = n := by rw [IntKind.wrap_u8]; omega
theorem digit (x : Int) (h : 0 ≤ x) : bits .or .u8 ((bits .and .i64 x 127) % 256) 128 = 128 + x % 128 := by
  have e1 : bits .and .i64 x 127 = x % 128 := and_mask .i64 7 (by decide) x
  rw [e1, Int.emod_eq_of_lt (a := x % 128) (by omega) (by omega), Arith.or_comm]
  exact bits_join .u8 8 (by decide) wrap_u8 7 128 (x % 128) (by decide) (by decide) (by decide) (by omega) (by omega) (by omega)
theorem text_loop (m d : Nat) : ∀ (x : Int) (acc : List Int), 0 ≤ x → x < 128 ^ (d + 1) → impl_varText.l0 (d + 1 + m) x acc = some (strOfNums (acc ++ pv d x)) := by
  induction d with
  | zero =>
    intro x acc h0 h1
    have : x < 128 := by simpa using h1
    rw [show 0 + 1 + m = m + 1 by omega, impl_varText.l0, if_neg (by omega), Int.emod_eq_of_lt h0 (by omega)]
    rfl
  | succ d ih =>
    intro x acc h0 h1
    rw [show d + 1 + 1 + m = (d + 1 + m) + 1 by omega, impl_varText.l0]
    by_cases h : x > 127
    · rw [if_pos h, digit x h0, ih (x / 128) _ (by omega) (by rw [Int.pow_succ] at h1; omega), pv_big d (by omega)]
      simp
    · rw [if_neg h, pv_small _ (by omega), Int.emod_eq_of_lt h0 (by omega)]
theorem text (x : Int) (h0 : 0 ≤ x) (h1 : x < 9223372036854775808) : impl_varText.f x = some (strOfNums (pv 8 x)) := by
  have := text_loop 55 8 x [] h0 (by simpa using h1)
  simpa [impl_varText.f] using this
theorem pv_length (n : Nat) : ∀ x : Int, (pv n x).length ≤ n + 1 := by
  induction n with
  | zero => intro x; simp [pv]
  | succ n ih =>
    intro x
    simp only [pv]
    split
    · simp
    · have := ih (x / 128); simp; omega
theorem pv_bytes (n : Nat) : ∀ x : Int, 0 ≤ x → x < 128 ^ (n + 1) → Bytes (pv n x) := by
  induction n with
  | zero =>
    intro x h0 h1 y hy
    have : x < 128 := by simpa using h1
    simp [pv] at hy; omega
  | succ n ih =>
    intro x h0 h1 y hy
    rw [Int.pow_succ] at h1
    by_cases h : x < 128
    · rw [pv_small _ h] at hy; simp at hy; omega
    · rw [pv_big n h] at hy
      rcases List.mem_cons.1 hy with h2 | h2
      · omega
      · exact ih (x / 128) (by omega) (by omega) y h2
theorem pv8_bytes (x : Int) (h0 : 0 ≤ x) (h1 : x < 9223372036854775808) : Bytes (pv 8 x) := pv_bytes 8 x h0 (by simpa using h1)
theorem bytes_app {l m : List Int} (h : Bytes l) (h' : Bytes m) : Bytes (l ++ m) := fun x hx => by
  rcases List.mem_append.1 hx with h1 | h1
  · exact h x h1
  · exact h' x h1
theorem conv_of {l : List Int} (h : Bytes l) (hl : l.length ≤ 1000000000) : conv.f (strOfNums l) = some l := by
  unfold conv.f
  rw [if_pos (by rw [strOfNums_size]; omega), bytesOf_strOfNums h]
theorem strOfNums_append (l m : List Int) : strOfNums (l ++ m) = strOfNums l ++ strOfNums m := by
  apply bytes_ext
  simp [strOfNums_data]

end Go.Proofs.YtdjggipdjoopaaaDoor.VarText
