/- FnNumbers: the draws end, and what was written is read back. No condition. -/
import Derived.Test.YtdjggipdjoopaaaDoorPFnx1
import Derived.Test.YtdjggipdjoopaaaDoorPFnx3
import Derived.Test.YtdjggipdjoopaaaDoorPFnx5
import Derived.Test.YtdjggipdjoopaaaDoorPFnx9
import Derived.Test.YtdjggipdjoopaaaDoorNumbers
import Derived.Test.YtdjggipdjoopaaaDoorDrawText
import Derived.Test.YtdjggipdjoopaaaDoorTabN
import Derived.Test.YtdjggipdjoopaaaDoorOpen
namespace Go.Proofs.YtdjggipdjoopaaaDoor.WalkFnNumbers
open Go Go.RowKit Go.Proofs.YtdjggipdjoopaaaDoor.PFn Go.Proofs.YtdjggipdjoopaaaDoorW.PrintWords Go.Proofs.YtdjggipdjoopaaaDoorW.PrintMore Go.Proofs.YtdjggipdjoopaaaDoor.Arith Go.Proofs.YtdjggipdjoopaaaDoor.Lib Go.Proofs.YtdjggipdjoopaaaDoor.Draw Go.Proofs.YtdjggipdjoopaaaDoor.Numbers
set_option linter.unusedSimpArgs false
set_option linter.unusedVariables false

theorem word_some {l : List Int} {i : Int} (h : Int) (hc : Cur l i) : ∃ x i' h', spec_l01Word.f l i h = some (x, i', h') ∧ 0 ≤ x ∧ x < 4294967296 ∧ Cur l i' := by
  obtain ⟨r, i1, h1, e1, r0, r1, _, c1⟩ := below_some h 4 hc
  unfold spec_l01Word.f
  rw [e1]
  simp only [Option.bind_some]
  by_cases h0 : r = 0
  · rw [if_pos h0]
    obtain ⟨j, i2, h2, _, _, e2, c2⟩ := pickInt_some h1 c1 [0, 1, 2, 31, 32, 255, 256, 2147483647, 2147483648, 4294967295, 4294967294] (by simp)
    rw [e2]
    exact ⟨_, _, _, rfl, by simp only; omega, by simp only; omega, c2⟩
  · rw [if_neg h0]
    by_cases h3 : r = 1
    · rw [if_pos h3]
      obtain ⟨q, i2, h2, e2, _, _, _, c2⟩ := below_some h1 300 c1
      rw [e2]
      exact ⟨_, _, _, rfl, by simp only; omega, by simp only; omega, c2⟩
    · rw [if_neg h3]
      obtain ⟨q, i2, h2, e2, _, _, _, c2⟩ := below_some h1 65536 c1
      obtain ⟨q', i3, h3', e3, _, _, _, c3⟩ := below_some h2 65536 c2
      rw [e2]
      simp only [Option.bind_some]
      rw [e3]
      exact ⟨_, _, _, rfl, by simp only; omega, by simp only; omega, c3⟩
theorem pick8 : ∀ j : Fin 8, -1 ≤ rd [0, 1, 127, 128, 16383, 16384, 9223372036854775807, -1] (j.val : Int) ∧ rd [0, 1, 127, 128, 16383, 16384, 9223372036854775807, -1] (j.val : Int) ≤ 9223372036854775807 := by decide +kernel
theorem num_some {l : List Int} {i : Int} (h : Int) (hc : Cur l i) : ∃ x i' h', spec_l01Num.f l i h = some (x, i', h') ∧ -1 ≤ x ∧ x ≤ 9223372036854775807 ∧ Cur l i' := by
  obtain ⟨r, i1, h1, e1, r0, r1, _, c1⟩ := below_some h 4 hc
  unfold spec_l01Num.f
  rw [e1]
  simp only [Option.bind_some]
  by_cases h0 : r = 0
  · rw [if_pos h0]
    obtain ⟨j, i2, h2, j0, j1, e2, c2⟩ := pickInt_some h1 c1 [0, 1, 127, 128, 16383, 16384, 9223372036854775807, -1] (by simp)
    have hp := pick8 ⟨j.toNat, by simp at j1; omega⟩
    rw [show (((⟨j.toNat, by simp at j1; omega⟩ : Fin 8).val : Nat) : Int) = j from by simp; omega] at hp
    rw [show ([0, 1, 127, 128, 16383, 16384, 9223372036854775807, (-1)] : List Int) = [0, 1, 127, 128, 16383, 16384, 9223372036854775807, -1] from rfl, e2]
    exact ⟨_, _, _, rfl, hp.1, hp.2, c2⟩
  · rw [if_neg h0]
    by_cases h3 : r = 1
    · rw [if_pos h3]
      obtain ⟨q, i2, h2, e2, q0, q1, _, c2⟩ := below_some h1 400 c1
      have q1 := q1 (by omega)
      rw [e2]
      exact ⟨_, _, _, rfl, by simp only; omega, by simp only; omega, c2⟩
    · rw [if_neg h3]
      obtain ⟨q, i2, h2, e2, q0, q1, c2⟩ := word_some h1 c1
      rw [e2]
      refine ⟨_, _, _, rfl, ?_, ?_, c2⟩
      · simp only; rw [w64 (by omega) (by omega)]; omega
      · simp only; rw [w64 (by omega) (by omega)]; omega
theorem putVar_some (l : List Int) (hl : l.length ≤ 1048576) : ∃ x, Ev (fun k => spec_DrawPutVar.f k l) x ∧ -1 ≤ x ∧ x ≤ 9223372036854775807 := by
  obtain ⟨h', hn⟩ := new_ev l hl
  obtain ⟨x, i', h2, e, x0, x1, _⟩ := num_some h' (cur_new l hl)
  refine ⟨x, ?_, x0, x1⟩
  unfold spec_DrawPutVar.f
  refine Ev.bind hn ?_
  simp only [e, Option.bind_some]
  exact Ev.now _
theorem putText_some (l : List Int) (hl : l.length ≤ 1048576) : ∃ s, Ev (fun k => spec_DrawPutText.f k l) s ∧ s.size ≤ 300 := by
  obtain ⟨h', hn⟩ := new_ev l hl
  have hz : ∃ t, spec_l01Size.f l 300 = some t ∧ 2 ≤ t ∧ t ≤ 300 := by
    unfold spec_l01Size.f
    rw [w64 (x := (l.length : Int) / 20) (by omega) (by omega), w64 (x := 2 + (l.length : Int) / 20) (by omega) (by omega)]
    by_cases h : 2 + (l.length : Int) / 20 > 300
    · rw [if_pos h]; exact ⟨_, rfl, by omega, by omega⟩
    · rw [if_neg h]; exact ⟨_, rfl, by omega, by omega⟩
  obtain ⟨t, ht, t0, t1⟩ := hz
  obtain ⟨r, i1, h1, e1, r0, r1, _, c1⟩ := below_some h' t (cur_new l hl)
  have r1 := r1 (by omega)
  obtain ⟨s, i2, h2, e2, hs, _⟩ := DrawText.text_some h1 c1 r r0 (by omega)
  refine ⟨s, ?_, by omega⟩
  unfold spec_DrawPutText.f
  refine Ev.bind hn ?_
  simp only [ht, e1, Option.bind_some]
  exact Ev.bind e2 (Ev.now _)

theorem tmod_bound (x : Int) : -1000000000000 ≤ Int.tmod x 1000000000000 ∧ Int.tmod x 1000000000000 ≤ 1000000000000 := by
  rcases Int.le_total 0 x with h | h
  · rw [Int.tmod_eq_emod_of_nonneg h]; omega
  · obtain ⟨y, rfl⟩ : ∃ y, x = -y := ⟨-x, by omega⟩
    rw [Int.neg_tmod, Int.tmod_eq_emod_of_nonneg (by omega)]; omega
theorem j1_ (x : Int) (s : ByteArray) (hs : s.size ≤ 300) : Ev (fun k => laws_FnNumbers.j1 k x s false) true := by
  have ht : Ev (fun k => impl_HexText.f k (bytesOf s)) (strOfNums (Hex.hexl (bytesOf s))) := by
    unfold impl_HexText.f
    simp only [if_neg (show ¬ ((bytesOf s).length : Int) > 20000 by rw [bytesOf_length]; omega), strOfNums_bytesOf]
    exact Ev.bind (Hex.impl_ev s (by omega)) (Ev.now _)
  obtain ⟨K1, e1⟩ := ht
  obtain ⟨K2, e2⟩ := hex_back s (by omega)
  refine ⟨K1 + K2 + 1, fun k hk => ?_⟩
  obtain ⟨m, rfl⟩ : ∃ m, k = m + 1 := ⟨k - 1, by omega⟩
  have e1 : impl_HexText.f m (bytesOf s) = _ := e1 m (by omega)
  have e2 : impl_HexBytes.f m (strOfNums (Hex.hexl (bytesOf s))) = _ := e2 m (by omega)
  have hy := tmod_bound x
  have e3 := decText (Int.tmod x 1000000000000) (by omega) (by omega)
  have e4 := decNum (Int.tmod x 1000000000000) hy.1 hy.2
  have e5 : conv.f s = some (bytesOf s) := by unfold conv.f; rw [if_pos (by omega)]
  have e6 := getWord (x % 4294967296) (by omega) (by omega)
  simp only [laws_FnNumbers.j1, putWord, Option.bind_some, e6, e5, e1, e2, e3, e4, strOfNums_bytesOf]
  simp
theorem j0_ (x : Int) (s : ByteArray) (hs : s.size ≤ 300) : Ev (fun k => laws_FnNumbers.j0 k x s [7, 200] false) true := by
  have htail : Bytes [7, 200] := fun z hz => by
    simp only [List.mem_cons, List.not_mem_nil, or_false] at hz
    rcases hz with rfl | rfl <;> omega
  obtain ⟨K1, e1⟩ := getText_ev s [7, 200] (by omega) htail (by simp)
  obtain ⟨K2, e2⟩ := j1_ x s hs
  refine ⟨K1 + K2 + 1, fun k hk => ?_⟩
  obtain ⟨m, rfl⟩ : ∃ m, k = m + 1 := ⟨k - 1, by omega⟩
  have e1 : impl_GetText.f m (txt s ++ [7, 200]) = _ := e1 m (by omega)
  have e2 : laws_FnNumbers.j1 m x s false = some true := e2 m (by omega)
  have hl := txt_length s
  have hp := Var.pv_len_pos 8 (s.size : Int)
  have hp9 := VarText.pv_length 8 (s.size : Int)
  simp only [laws_FnNumbers.j0, txt_impl s (by omega), Option.bind_some, e1, if_true]
  rw [if_neg (by decide), if_pos (by rw [hl]; simp; omega)]
  rw [decide_eq_false (by rw [hl]; omega), e2]
theorem pure_ (l : List Int) : ∃ k, laws_FnNumbers.f k l = some true := by
  by_cases hb : (l.length : Int) > 1048576
  · exact ⟨0, by unfold laws_FnNumbers.f laws_big.f; simp only [Option.bind_some, decide_eq_true hb, if_true]⟩
  have htail : Bytes [7, 200] := fun z hz => by
    simp only [List.mem_cons, List.not_mem_nil, or_false] at hz
    rcases hz with rfl | rfl <;> omega
  obtain ⟨x, ⟨K1, e1⟩, x0, x1⟩ := putVar_some l (by omega)
  obtain ⟨s, ⟨K2, e2⟩, hs⟩ := putText_some l (by omega)
  obtain ⟨K3, e3⟩ := getVar_ev (num x ++ [7, 200]) (VarText.bytes_app (num_bytes x (by omega)) htail)
  obtain ⟨K4, e4⟩ := j0_ x s hs
  refine ⟨K1 + K2 + K3 + K4, ?_⟩
  have e1 : spec_DrawPutVar.f (K1 + K2 + K3 + K4) l = some x := e1 _ (by omega)
  have e2 : spec_DrawPutText.f (K1 + K2 + K3 + K4) l = some s := e2 _ (by omega)
  have e3 : impl_GetVar.f (K1 + K2 + K3 + K4) (num x ++ [7, 200]) = _ := e3 _ (by omega)
  have e4 : laws_FnNumbers.j0 (K1 + K2 + K3 + K4) x s [7, 200] false = some true := e4 _ (by omega)
  have hn := num_length x
  unfold laws_FnNumbers.f laws_big.f
  simp only [Option.bind_some, decide_eq_false hb, Bool.false_eq_true, if_false, e1, e2, num_impl x (by omega), e3]
  rw [if_pos (by simp; omega)]
  by_cases hx : x ≥ 0
  · have hN : num x = Var.pv 8 x := by unfold num; rw [if_neg (by omega)]
    have hg : Var.gvr (num x ++ [7, 200]) = (x, ((num x).length : Int)) := by rw [hN]; exact gvr_pv _ x (by omega) (by omega)
    have hp := Var.pv_len_pos 8 x
    rw [hg, if_pos hx]
    simp only [if_true]
    rw [if_neg (by rw [hN]; omega), if_neg (by omega), if_neg (by omega), e4]
  · have hN : num x = [] := by unfold num; rw [if_pos (by omega)]
    rw [if_neg hx, if_pos (by omega), hN]
    exact e4
theorem walk {P : Prop} {H : Type} {enc : TypeId × Value → H} (W : World) (hL : laidMetH Tryd.prog Rows.fnNumbersRow.laid W) (_ : P) (ad : Option Addr) (len cap : Nat) {fuel : Nat} {x : DataW H × List MemPlace} (f : DataW.trod enc Tryd.prog W 0 (fun _ => true) true fuel 22 [.slice ad len cap] = some x) :
    Calls Tryd.prog 3 #[.slice ad len cap] W fun e w' => e = .returned (.bool true) ∧ Below W.heap.size W w' := by
  obtain ⟨l, ⟨A, c, hc, hl, hr⟩, _⟩ := Opens.op_slice (0 : Int) Tryd.underlying22 (d := Kd.int .u8) (by kernel_rfl) (Opens.op_int Tryd.underlying5) W _ _ _ _ _ f
  obtain ⟨rfl, rfl, rfl⟩ : ad = A ∧ len = l.length ∧ cap = c := by simpa using hc
  obtain ⟨k, hk⟩ := pure_ l
  exact laws_FnNumbers.calls k ad cap l true W (Tab.of_laid hL) hr hl hk

end Go.Proofs.YtdjggipdjoopaaaDoor.WalkFnNumbers
