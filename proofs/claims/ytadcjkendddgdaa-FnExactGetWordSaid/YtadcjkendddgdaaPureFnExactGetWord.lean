/- The program's GetWord and the reference's agree on every list of bytes, and the program writes nothing into it. No condition. -/
import Derived.Test.YtadcjkendddgdaaPAllx6
import Derived.Test.YtadcjkendddgdaaPAllx7
import Derived.Test.YtadcjkendddgdaaToBytes
namespace Go.Proofs.Ytadcjkendddgdaa.Pure
open Go Go.RowKit Go.Proofs.Ytadcjkendddgdaa.PAll Go.Proofs.YtadcjkendddgdaaW.PrintWords Go.Proofs.Ytadcjkendddgdaa.Arith Go.Proofs.Ytadcjkendddgdaa.Lib
set_option linter.unusedSimpArgs false
set_option linter.unusedVariables false

theorem word_eq (l : List Int) (hb : Bytes l) : impl_GetWord.f l = spec_GetWord.f l := by
  unfold impl_GetWord.f spec_GetWord.f
  by_cases h : (l.length : Int) = 4
  · rw [if_pos h, if_pos h, if_pos (by omega), if_pos (by omega), if_pos (by omega), if_pos (by omega)]
    unfold impl_readWord.f
    rw [strOfNums_size, if_pos (by omega), if_pos (by omega), if_pos (by omega), if_pos (by omega)]
    simp only [bt_strOfNums hb, Option.bind_some]
    have h0 := rd_range hb 0
    have h1 := rd_range hb 1
    have h2 := rd_range hb 2
    have h3 := rd_range hb 3
    generalize rd l 0 = a at *
    generalize rd l 1 = b at *
    generalize rd l 2 = c at *
    generalize rd l 3 = d at *
    rw [Int.emod_eq_of_lt (a := a) (by omega) (by omega), Int.emod_eq_of_lt (a := b) (by omega) (by omega), Int.emod_eq_of_lt (a := c) (by omega) (by omega), Int.emod_eq_of_lt (a := d) (by omega) (by omega)]
    rw [Int.emod_eq_of_lt (a := b * 256) (by omega) (by omega), Int.emod_eq_of_lt (a := c * 65536) (by omega) (by omega), Int.emod_eq_of_lt (a := d * 16777216) (by omega) (by omega)]
    rw [or_comm .u32 a, or_join32 8 (b * 256) a (by omega) (by omega) (by omega) (by omega) (by omega) (by omega)]
    rw [or_comm .u32 _ (c * 65536), or_join32 16 (c * 65536) _ (by omega) (by omega) (by omega) (by omega) (by omega) (by omega)]
    rw [or_comm .u32 _ (d * 16777216), or_join32 24 (d * 16777216) _ (by omega) (by omega) (by omega) (by omega) (by omega) (by omega)]
    rw [w64 (x := a) (by omega) (by omega), w64 (x := b) (by omega) (by omega), w64 (x := c) (by omega) (by omega), w64 (x := d) (by omega) (by omega)]
    rw [w64 (x := 256 * b) (by omega) (by omega), w64 (x := 65536 * c) (by omega) (by omega), w64 (x := 16777216 * d) (by omega) (by omega)]
    rw [w64 (x := a + 256 * b) (by omega) (by omega), w64 (x := a + 256 * b + 65536 * c) (by omega) (by omega), w64 (x := a + 256 * b + 65536 * c + 16777216 * d) (by omega) (by omega)]
    rw [show d * 16777216 + (c * 65536 + (b * 256 + a)) = (a + 256 * b + 65536 * c + 16777216 * d) % 4294967296 from by omega]
  · rw [if_neg h, if_neg h]
theorem word_some (l : List Int) (hb : Bytes l) : ∃ r, spec_GetWord.f l = some r := by
  unfold spec_GetWord.f
  by_cases h : (l.length : Int) = 4
  · rw [if_pos h, if_pos (by omega), if_pos (by omega), if_pos (by omega), if_pos (by omega)]; exact ⟨_, rfl⟩
  · rw [if_neg h]; exact ⟨_, rfl⟩

theorem FnExactGetWord : laws_FnExactGetWord.Pure := by
  intro l _ _ hwf
  have hb := bytes_of_wf hwf
  apply Ev.rounds
  unfold laws_FnExactGetWord.f
  by_cases h : (l.length : Int) > 1048576
  · simp only [if_pos h]; exact Ev.now _
  simp only [if_neg h]
  obtain ⟨r, hr⟩ := word_some l hb
  refine Ev.bind (ToBytes.to_ev l (by omega)) ?_
  refine Ev.bind (ev_const hr) ?_
  refine Ev.bind (ToBytes.to_ev l (by omega)) ?_
  refine Ev.bind (ev_const ((word_eq l hb).trans hr)) ?_
  simp only [if_pos]
  refine Ev.step (f := fun k => (laws_toByteS.f k l).bind fun t => (laws_eqByteS.f k l t).bind fun t2 => if t2 = true then some true else some false) (fun k => ?_) ?_
  · simp only [laws_FnExactGetWord.j0]
    simp
  · refine Ev.bind (ToBytes.to_ev l (by omega)) ?_
    refine Ev.bind (ToBytes.eq_ev l (by omega)) ?_
    exact Ev.now _

end Go.Proofs.Ytadcjkendddgdaa.Pure
