/- The law on Transfer returns true at every pair of texts and every seed. No condition. -/
import Derived.Test.YtbkodnhnadkhdaaDoorPTrx0
import Derived.Test.YtbkodnhnadkhdaaDoorPTrx6
import Derived.Test.YtbkodnhnadkhdaaDoorTrPTr
import Derived.Test.YtbkodnhnadkhdaaDoorTrWTr
import Derived.Test.YtbkodnhnadkhdaaDoorMarkTokTr
namespace Go.Proofs.YtbkodnhnadkhdaaDoor.TrL
open Go Go.RowKit Go.Proofs.YtbkodnhnadkhdaaDoor.PTr Go.Proofs.YtbkodnhnadkhdaaDoorW.PrintWords Go.Proofs.YtbkodnhnadkhdaaDoorW.PrintMore Go.Proofs.YtbkodnhnadkhdaaDoor.Arith Go.Proofs.YtbkodnhnadkhdaaDoor.Lib
set_option linter.unusedVariables false
set_option linter.unusedSimpArgs false
theorem marks (R : List S94) (h : R.length ≤ 20000) : ∃ N, ∀ k, N ≤ k → laws_eqTokenS.f k R R = some true ∧ laws_markTokenS.f k R 1 = some (((4 * R.length + 1 : Nat) : Int), MarkTok.mkT R.length) ∧ laws_heldTokenS.f k (MarkTok.mkT R.length) 1 = some ((4 * R.length + 1 : Nat) : Int) := by
 obtain ⟨k3, hE⟩ := MarkTok.eq_evT R (by omega)
 obtain ⟨k4, hH⟩ := MarkTok.held_evT R.length (by omega)
 obtain ⟨k5, hM⟩ := MarkTok.mark_evT R (by omega)
 exact ⟨k3 + k4 + k5, fun k hk => ⟨hE k (by omega), hM k (by omega), hH k (by omega)⟩⟩
theorem walk {P : Prop} (W : World) (hL : laidMetH Tryd.prog Rows.fnExactTransferRow.laid W) (_ : P) (old : ByteArray) (w0 : old.size ≤ 140737488351232) (data : ByteArray) (w1 : data.size ≤ 140737488351232) (sd : Int) (w2 : (Lit.int .u32 sd).wf = true) :
 Calls Tryd.prog 11 #[.string old, .string data, .int .u32 sd] W fun e w' => e = .returned (.bool true) ∧ Below W.heap.size W w' := by
 have hT := Tab.of_laid hL
 by_cases hbig : (old.size : Int) > 1048576 ∨ (data.size : Int) > 1048576
 ·
  exact tr.law_big old data sd W hbig
 have ho : ¬ (old.size : Int) > 1048576 := fun h => hbig (.inl h)
 have hd : ¬ (data.size : Int) > 1048576 := fun h => hbig (.inr h)
 by_cases hmid : (old.size : Int) > 20000 ∨ (data.size : Int) > 20000
 ·
  obtain ⟨k1, hI⟩ := TrP.impl_big old data sd hmid
  obtain ⟨k2, hm⟩ := marks [] (by simp)
  obtain ⟨h1, h2, h3⟩ := hm (k1 + k2) (by omega)
  exact tr.law (k1 + k2) old data sd _ false [] _ _ W ho hd (by simp) (fun w' _ => tr.spec_big old data sd w' hmid) (fun w' hb => impl_Transfer.calls (k1 + k2) old data sd _ _ _ w' (hT.below hb) (hI _ (by omega))) h1 h2 h3
 ·
  have ho' : old.size ≤ 20000 := Nat.not_lt.1 (fun h => hmid (.inl (by omega)))
  have hd' : data.size ≤ 20000 := Nat.not_lt.1 (fun h => hmid (.inr (by omega)))
  have hsd : 0 ≤ sd ∧ sd < 4294967296 := by
   simp [Lit.wf, IntKind.min, IntKind.max, IntKind.signed, IntKind.bits] at w2; omega
  obtain ⟨size, a, b, wk, st, L, out, ok, hz, hLn, b1, b2, g1, g2, d1, d2, p1, p2⟩ := TrP.way old data sd hsd ho' hd'
  obtain ⟨same, hs⟩ : ∃ same, same = (ok && decide (Str.sumOf out = Str.sumOf data)) := ⟨_, rfl⟩
  obtain ⟨k0, hI⟩ := TrP.impl_ev old data sd size a b wk st L out ok same ho' hd' hz b1 g1 d1 p1 hs
  obtain ⟨k1, b2⟩ := b2
  obtain ⟨k2, g2⟩ := g2
  obtain ⟨k3, d2⟩ := d2
  obtain ⟨k4, p2⟩ := p2
  obtain ⟨k5, o2⟩ := Blocks.only_spec data
  obtain ⟨k6, hm⟩ := marks (if same = true then L else Blocks.only data) (by split; (· exact hLn); (· exact Blocks.only_length data))
  obtain ⟨h1, h2, h3⟩ := hm (k0 + k1 + k2 + k3 + k4 + k5 + k6) (by omega)
  exact tr.law (k0 + k1 + k2 + k3 + k4 + k5 + k6) old data sd _ (!same) _ _ _ W ho hd (by omega)
   (fun w' _ => tr.spec (k0 + k1 + k2 + k3 + k4 + k5 + k6) old data sd size a b wk st true L (Blocks.only data) out ok same w' (by omega) (by omega) (b2 _ (by omega)) (g2 _ (by omega)) (d2 _ (by omega)) (p2 _ (by omega)) (o2 _ (by omega)) hs)
   (fun w' hb => impl_Transfer.calls (k0 + k1 + k2 + k3 + k4 + k5 + k6) old data sd _ _ _ w' (hT.below hb) (hI _ (by omega))) h1 h2 h3
end Go.Proofs.YtbkodnhnadkhdaaDoor.TrL
