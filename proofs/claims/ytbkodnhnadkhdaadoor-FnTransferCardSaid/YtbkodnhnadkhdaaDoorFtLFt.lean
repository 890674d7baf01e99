/- The law on drawn transfers returns true at every code. No condition. -/
import Derived.Test.YtbkodnhnadkhdaaDoorPFtx4
import Derived.Test.YtbkodnhnadkhdaaDoorPFtx9
import Derived.Test.YtbkodnhnadkhdaaDoorFtPFt
import Derived.Test.YtbkodnhnadkhdaaDoorFtDFt
import Derived.Test.YtbkodnhnadkhdaaDoorFtWFt
import Derived.Test.YtbkodnhnadkhdaaDoorOpen
namespace Go.Proofs.YtbkodnhnadkhdaaDoor.FtL
open Go Go.RowKit Go.Proofs.YtbkodnhnadkhdaaDoor.PFt Go.Proofs.YtbkodnhnadkhdaaDoorW.PrintWords Go.Proofs.YtbkodnhnadkhdaaDoorW.PrintMore Go.Proofs.YtbkodnhnadkhdaaDoor.Arith Go.Proofs.YtbkodnhnadkhdaaDoor.Lib
set_option linter.unusedVariables false
set_option linter.unusedSimpArgs false
theorem walk {P : Prop} {H : Type} {enc : TypeId × Value → H} (W : World) (hL : laidMetH Tryd.prog Rows.fnTransferRow.laid W) (_ : P) (ad : Option Addr) (len cap : Nat) {fuel : Nat} {x : DataW H × List MemPlace} (f : DataW.trod enc Tryd.prog W 0 (fun _ => true) true fuel 50 [.slice ad len cap] = some x) :
    Calls Tryd.prog 9 #[.slice ad len cap] W fun e w' => e = .returned (.bool true) ∧ Below W.heap.size W w' := by
  obtain ⟨l, ⟨A, c, hc, hl, hr⟩, _⟩ := Opens.op_slice (0 : Int) Tryd.underlying50 (d := Kd.int .u8) (by kernel_rfl) (Opens.op_int Tryd.underlying5) W _ _ _ _ _ f
  obtain ⟨rfl, rfl, rfl⟩ : ad = A ∧ len = l.length ∧ cap = c := by simpa using hc
  have hT := Tab.of_laid hL
  by_cases hb : (l.length : Int) > 1048576
  · exact ft.law_big ad cap l W hr hl (by unfold laws_big.f; rw [decide_eq_true hb])
  · have hlb : laws_big.f l = some false := by unfold laws_big.f; rw [decide_eq_false hb]
    obtain ⟨old, data, sd, hDr, ho, hd, hsd⟩ := FtD.draw_some l (by omega)
    obtain ⟨size, x, got, R, again, hTr, hBs, hP1, hO, hP2, hL1, hL2, hx, hS, hg⟩ := FtP.all old data sd hsd (by omega) (by omega)
    obtain ⟨k1, hDr⟩ := hDr
    obtain ⟨k2, hTr⟩ := hTr
    obtain ⟨k3, hBs⟩ := hBs
    obtain ⟨k4, hP1⟩ := hP1
    obtain ⟨k5, hO⟩ := hO
    obtain ⟨k6, hP2⟩ := hP2
    obtain ⟨k7, hL1⟩ := hL1
    obtain ⟨k8, hL2⟩ := hL2
    obtain ⟨k9, hS⟩ : ∃ k9, ∀ k, k9 ≤ k → again = true → laws_sameTokens.f k R (Blocks.only data) = some true := by
      cases again with
      | false => exact ⟨0, fun _ _ h => by cases h⟩
      | true => obtain ⟨k9, h9⟩ := hS rfl; exact ⟨k9, fun k hk _ => h9 k hk⟩
    exact ft.law (k1 + k2 + k3 + k4 + k5 + k6 + k7 + k8 + k9) ad cap l old data sd got R (Blocks.only data) again size x W hT hr hl hlb (hDr _ (by omega)) (hTr _ (by omega)) (hBs _ (by omega)) (hP1 _ (by omega)) (hO _ (by omega)) (hP2 _ (by omega)) (hL1 _ (by omega)) (hL2 _ (by omega)) hx (hS _ (by omega)) hg
end Go.Proofs.YtbkodnhnadkhdaaDoor.FtL
