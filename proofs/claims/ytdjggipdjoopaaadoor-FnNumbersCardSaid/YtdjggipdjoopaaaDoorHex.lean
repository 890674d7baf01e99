/- What the two ways of writing bytes as hexadecimal digits come to: the same list of digits. Condition: at most 20000 bytes, and they are bytes. -/
import Derived.Test.YtdjggipdjoopaaaDoorPFnx5
import Derived.Test.YtdjggipdjoopaaaDoorLib
namespace Go.Proofs.YtdjggipdjoopaaaDoor.Hex
open Go Go.RowKit Go.Proofs.YtdjggipdjoopaaaDoor.PFn Go.Proofs.YtdjggipdjoopaaaDoorW.PrintWords Go.Proofs.YtdjggipdjoopaaaDoorW.PrintMore Go.Proofs.YtdjggipdjoopaaaDoor.Arith Go.Proofs.YtdjggipdjoopaaaDoor.Lib
set_option linter.unusedSimpArgs false
set_option linter.unusedVariables false

def dig (x : Int) : Int := bt (⟨#[48, 49, 50, 51, 52, 53, 54, 55, 56, 57, 97, 98, 99, 100, 101, 102]⟩ : ByteArray) x
def hexl : List Int → List Int
  | [] => []
  | b :: l => dig (b / 16) :: dig (b % 16) :: hexl l
theorem hexl_length (l : List Int) : (hexl l).length = 2 * l.length := by
  induction l with
  | nil => rfl
  | cons b l ih => simp only [hexl, List.length_cons, ih]; omega
theorem dig_range (x : Int) : 0 ≤ dig x ∧ dig x ≤ 255 := bt_range _ x

theorem impl_loop (s : ByteArray) (hl : s.size ≤ 20000) (d : Nat) : ∀ (i : Nat) (acc : List Int), i + d = s.size → acc.length = 2 * i → Ev (fun k => impl_hexText.l0 k s acc s.size i) (strOfNums (acc ++ hexl ((bytesOf s).drop i))) := by
  induction d with
  | zero =>
    intro i acc h ha
    refine ev_at fun k => ?_
    simp only [impl_hexText.l0]
    rw [if_neg (by omega), drop_end s i (by omega)]
    simp [hexl]
  | succ d ih =>
    intro i acc h ha
    have hr := bt_range s (i : Int)
    have e1 : Int.tdiv (bt s (i : Int)) 16 % 256 = bt s (i : Int) / 16 := by rw [Int.tdiv_eq_ediv_of_nonneg hr.1]; omega
    have e2 : Int.tmod (bt s (i : Int)) 16 = bt s (i : Int) % 16 := Int.tmod_eq_emod_of_nonneg hr.1
    refine Ev.step (f := fun k => impl_hexText.l0 k s (acc ++ [dig (bt s (i : Int) / 16), dig (bt s (i : Int) % 16)]) s.size ((i + 1 : Nat) : Int)) (fun k => ?_) ?_
    · simp only [impl_hexText.l0, Option.bind_some]
      rw [e1, e2, if_pos (by omega), if_pos (by omega), if_pos (by omega), if_pos (by omega), if_pos (by omega), if_pos (by omega), if_pos (by omega), if_pos (by simp; omega), w64s i (by omega)]
      rfl
    · have := ih (i + 1) (acc ++ [dig (bt s (i : Int) / 16), dig (bt s (i : Int) % 16)]) (by omega) (by simp; omega)
      rw [drop_bt s i (by omega)]
      simpa [hexl] using this
theorem impl_ev (s : ByteArray) (hl : s.size ≤ 20000) : Ev (fun k => impl_hexText.f k s) (strOfNums (hexl (bytesOf s))) := by
  unfold impl_hexText.f
  rw [w64 (x := 2 * (s.size : Int)) (by omega) (by omega)]
  simp only [if_pos (show (0 : Int) ≤ 2 * (s.size : Int) by omega), if_pos (show (2 * (s.size : Int)).toNat ≤ 281474976710656 by omega)]
  have := impl_loop s hl s.size 0 [] (by omega) (by simp)
  simpa using this

end Go.Proofs.YtdjggipdjoopaaaDoor.Hex
