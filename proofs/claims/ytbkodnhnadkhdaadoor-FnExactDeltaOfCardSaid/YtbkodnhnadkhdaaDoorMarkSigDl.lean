/- Marking a signature that was handed in ends, with a number not below 0. Condition: at most 2^21 elements. -/
import Derived.Test.YtbkodnhnadkhdaaDoorPDlx9
import Derived.Test.YtbkodnhnadkhdaaDoorMarkTokDl
namespace Go.Proofs.YtbkodnhnadkhdaaDoor.MarkSig
open Go Go.RowKit Go.Proofs.YtbkodnhnadkhdaaDoor.PDl Go.Proofs.YtbkodnhnadkhdaaDoorW.PrintWords Go.Proofs.YtbkodnhnadkhdaaDoorW.PrintMore Go.Proofs.YtbkodnhnadkhdaaDoor.Arith Go.Proofs.YtbkodnhnadkhdaaDoor.Lib
set_option linter.unusedSimpArgs false
set_option linter.unusedVariables false

theorem str_loop (n : Nat) (hn : n ≤ 2097152) (d : Nat) : ∀ (i q : Nat) (x : List ByteArray), i + d = n → x.length = n → q + d ≤ 8388608 → ∃ y, Ev (fun k => laws_markStringS.l0 k x (q : Int) i) (((q + d : Nat) : Int), y) := by
  induction d with
  | zero =>
    intro i q x h hx hq
    refine ⟨x, ev_at fun k => ?_⟩
    simp only [laws_markStringS.l0]
    rw [if_neg (by omega)]
    rfl
  | succ d ih =>
    intro i q x h hx hq
    obtain ⟨y, hy⟩ := ih (i + 1) (q + 1) (x.set i (MarkTok.mt (q : Int))) (by omega) (by rw [List.length_set]; exact hx) (by omega)
    refine ⟨y, ?_⟩
    rw [show q + (d + 1) = q + 1 + d by omega]
    refine Ev.step (f := fun k => (laws_markText.f k (q : Int)).bind fun t => laws_markStringS.l0 k (x.set i t) ((q + 1 : Nat) : Int) ((i + 1 : Nat) : Int)) (fun k => ?_) (Ev.bind (MarkTok.mt_ev (q : Int) (by omega) (by omega)) hy)
    simp only [laws_markStringS.l0]
    rw [if_pos (by omega), w64s i (by omega), w64s q (by omega), Int.toNat_natCast]
    simp only [if_pos (show (0 : Int) ≤ (i : Int) by omega)]
theorem u32_loop (n : Nat) (hn : n ≤ 2097152) (d : Nat) : ∀ (i q : Nat) (x : List Int), i + d = n → x.length = n → q + d ≤ 8388608 → ∃ y, Ev (fun k => laws_markUint32S.l0 k x (q : Int) i) (((q + d : Nat) : Int), y) := by
  induction d with
  | zero =>
    intro i q x h hx hq
    refine ⟨x, ev_at fun k => ?_⟩
    simp only [laws_markUint32S.l0]
    rw [if_neg (by omega)]
    rfl
  | succ d ih =>
    intro i q x h hx hq
    obtain ⟨y, hy⟩ := ih (i + 1) (q + 1) (x.set i ((q : Int) % 4294967296)) (by omega) (by rw [List.length_set]; exact hx) (by omega)
    refine ⟨y, ?_⟩
    rw [show q + (d + 1) = q + 1 + d by omega]
    refine Ev.step (fun k => ?_) hy
    simp only [laws_markUint32S.l0]
    rw [if_pos (by omega), if_pos (by omega), w64s i (by omega), w64s q (by omega), Int.toNat_natCast]
theorem sig (a b : Int) (l : List Int) (m : List ByteArray) (hl : l.length ≤ 2097152) (hm : m.length ≤ 2097152) : ∃ q y, Ev (fun k => laws_markSig.f k a b l m 1) (q, y) ∧ 0 ≤ q := by
  obtain ⟨z, hz⟩ := u32_loop l.length hl l.length 0 1 l (by omega) rfl (by omega)
  obtain ⟨y, hy⟩ := str_loop m.length hm m.length 0 (1 + l.length) m (by omega) rfl (by omega)
  refine ⟨((1 + l.length + m.length : Nat) : Int), (z, y), ?_, by omega⟩
  unfold laws_markSig.f
  refine Ev.bind (g := fun k => laws_markUint32S.f k l 1) hz (Ev.bind (g := fun k => laws_markStringS.f k m ((1 + l.length : Nat) : Int)) hy ?_)
  exact Ev.now _

end Go.Proofs.YtbkodnhnadkhdaaDoor.MarkSig
