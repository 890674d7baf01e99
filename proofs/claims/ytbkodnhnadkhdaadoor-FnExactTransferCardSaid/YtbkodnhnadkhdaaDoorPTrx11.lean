-- Made by a program of this session (tools/pr.sh) out of the translation; Lean checks it.
import Derived.Test.YtbkodnhnadkhdaaDoorPTrx0
import Derived.Test.YtbkodnhnadkhdaaDoorPTrx5
import Derived.Test.YtbkodnhnadkhdaaDoorPTrx9
import Derived.Test.YtbkodnhnadkhdaaDoorPTrx10
namespace Go.Proofs.YtbkodnhnadkhdaaDoor.PTr
open Go.RowKit Go.Proofs.YtbkodnhnadkhdaaDoorW.PrintWords Go.Proofs.YtbkodnhnadkhdaaDoorW.PrintLast Go.Proofs.YtbkodnhnadkhdaaDoorW.PrintMore
attribute [local go_sem] max2_int min2_int max_two min_two max_three min_three max_four min_four   -- for this text's walks alone
set_option linter.unusedVariables false
set_option linter.unusedSimpArgs false

-- GIVEN by hand
/-! ### spec_DeltaOf: function 40 -/
/-- Whether block q fits where both sums are told. -/
def spec_DeltaOf.here (sz rs : Int) (wk : List Int) (st : List ByteArray) (a : Int) (b : ByteArray) (c : Int) (d : ByteArray) (q : Int) : Bool :=
 if q < 0 ∨ q ≥ (wk.length : Int) then false
 else if q = wrap64 ((wk.length : Int) - 1) ∧ rs > 0 then (if c = rd wk q then (d.toList == (rdOf ByteArray.empty st q).toList) else false)
 else (if a = rd wk q then (b.toList == (rdOf ByteArray.empty st q).toList) else false)
/-- The first from i on, of d, that fits; else -1. -/
def spec_DeltaOf.first (H : Int → Bool) : Nat → Nat → Int
 | 0, _ => -1
 | d + 1, i => if H (i : Int) = true then (i : Int) else spec_DeltaOf.first H d (i + 1)
def spec_DeltaOf.take (l : List S94) (q : Int) : List S94 :=
 if l ≠ [] ∧ (impl_delta.last l).f0 = 1 ∧ wrap64 ((impl_delta.last l).f2 + (impl_delta.last l).f3) = q then impl_delta.set l ⟨(impl_delta.last l).f0, (impl_delta.last l).f1, (impl_delta.last l).f2, wrap64 ((impl_delta.last l).f3 + 1)⟩
 else l ++ [⟨1, (⟨#[]⟩ : ByteArray), q, 1⟩]
def spec_DeltaOf.which (H : Int → Bool) (n : Nat) (l : List S94) : Int :=
 if l ≠ [] ∧ (impl_delta.last l).f0 = 1 ∧ H (wrap64 ((impl_delta.last l).f2 + (impl_delta.last l).f3)) = true then wrap64 ((impl_delta.last l).f2 + (impl_delta.last l).f3) else spec_DeltaOf.first H n 0
/-- A literal byte put behind some tokens. -/
def spec_DeltaOf.lit (l : List S94) (s : ByteArray) : List S94 :=
 if l ≠ [] ∧ (impl_delta.last l).f0 = 0 ∧ (impl_delta.last l).f1.size < 100 then impl_delta.set l ⟨(impl_delta.last l).f0, (impl_delta.last l).f1 ++ s.extract 0 1, (impl_delta.last l).f2, (impl_delta.last l).f3⟩
 else l ++ [⟨0, s.extract 0 1, 0, 0⟩]
def spec_DeltaOf.long (sz rs : Int) (n : Nat) (q : Int) : Int := if q = wrap64 ((n : Int) - 1) ∧ rs > 0 then rs else sz
def spec_DeltaOf.run (k : Nat) (sz rs : Int) (wk : List Int) (st : List ByteArray) (sd : Int) : Nat → ByteArray → List S94 → Option (List S94)
 | 0, _, l => some l
 | d + 1, s, l => if (s.size : Int) > 0 then
  ((spec_l06Sums.f k sd s sz).bind fun x => (spec_l06Sums.f k sd s rs).bind fun y =>
   (if spec_DeltaOf.which (spec_DeltaOf.here sz rs wk st x.1 x.2 y.1 y.2) wk.length l ≥ 0 then
    (if spec_DeltaOf.long sz rs wk.length (spec_DeltaOf.which (spec_DeltaOf.here sz rs wk st x.1 x.2 y.1 y.2) wk.length l) ≤ (s.size : Int) then
     spec_DeltaOf.run k sz rs wk st sd d (s.extract (spec_DeltaOf.long sz rs wk.length (spec_DeltaOf.which (spec_DeltaOf.here sz rs wk st x.1 x.2 y.1 y.2) wk.length l)).toNat s.size) (spec_DeltaOf.take l (spec_DeltaOf.which (spec_DeltaOf.here sz rs wk st x.1 x.2 y.1 y.2) wk.length l))
    else none)
   else spec_DeltaOf.run k sz rs wk st sd d (s.extract 1 s.size) (spec_DeltaOf.lit l s)))
  else some l
def spec_DeltaOf.ok (sz rs : Int) (wk : List Int) (st : List ByteArray) : Bool := decide (1 ≤ sz ∧ sz ≤ 256 ∧ 0 ≤ rs ∧ rs < sz ∧ wk.length ≤ 2500 ∧ wk.length = st.length)
def spec_DeltaOf.f (k : Nat) (a0_0 : Int) (a0_1 : Int) (l0_2 : List Int) (l0_3 : List ByteArray) (a1 : Int) (a2 : ByteArray) : Option (List S94) :=
 (spec_SigOk.f k a0_0 a0_1 l0_2 l0_3).bind fun t => (if t = true then (if (a2.size : Int) > 20000 then some [] else (if spec_DeltaOf.ok a0_0 a0_1 l0_2 l0_3 = true then spec_DeltaOf.run k a0_0 a0_1 l0_2 l0_3 a1 a2.size a2 [] else none)) else some [])
theorem spec_DeltaOf.mono_run (k : Nat) (sz rs : Int) (wk : List Int) (st : List ByteArray) (sd : Int) : ∀ d s l, LeO (spec_DeltaOf.run k sz rs wk st sd d s l) (spec_DeltaOf.run (k + 1) sz rs wk st sd d s l)
 | 0, s, l => LeO.refl _
 | d + 1, s, l => by
  simp only [spec_DeltaOf.run]
  exact LeO.ite (LeO.bind (spec_l06Sums.mono _ _ _ _) (fun _ => LeO.bind (spec_l06Sums.mono _ _ _ _) (fun _ => LeO.ite (LeO.ite (spec_DeltaOf.mono_run k sz rs wk st sd d _ _) (LeO.refl _)) (spec_DeltaOf.mono_run k sz rs wk st sd d _ _)))) (LeO.refl _)
theorem spec_DeltaOf.mono : ∀ a0 a1 a2 a3 a4 a5 k, LeO (spec_DeltaOf.f k a0 a1 a2 a3 a4 a5) (spec_DeltaOf.f (k + 1) a0 a1 a2 a3 a4 a5) := by
 intro a0 a1 a2 a3 a4 a5 k
 unfold spec_DeltaOf.f
 exact LeO.bind (spec_SigOk.mono _ _ _ _ _) (fun _ => LeO.ite (LeO.ite (LeO.refl _) (LeO.ite (spec_DeltaOf.mono_run _ _ _ _ _ _ _ _ _) (LeO.refl _))) (LeO.refl _))
theorem spec_DeltaOf.here_some (sz rs : Int) (wk : List Int) (st : List ByteArray) (a : Int) (b : ByteArray) (c : Int) (d : ByteArray) (q : Int) (h : wk.length = st.length) : spec_l06Here.f 1 sz rs wk st q a b c d = some (spec_DeltaOf.here sz rs wk st a b c d q) := by
 unfold spec_l06Here.f spec_DeltaOf.here
 by_cases h1 : q < 0
 ·
  rw [if_pos h1, if_pos (Or.inl h1)]; simp [spec_l06Here.j0]
 rw [if_neg h1]
 by_cases h2 : q ≥ (wk.length : Int)
 ·
  rw [if_pos (Or.inr h2), decide_eq_true h2]; simp [spec_l06Here.j0]
 rw [if_neg (fun h => h.elim h1 h2), decide_eq_false h2]
 simp only [spec_l06Here.j0, Bool.false_eq_true, if_false]
 have h3 : q < (st.length : Int) := by omega
 have h6 : 0 ≤ q := by omega
 have h7 : q < (wk.length : Int) := by omega
 by_cases h4 : q = wrap64 ((wk.length : Int) - 1)
 ·
  by_cases h5 : rs > 0
  ·
   rw [if_pos h4, if_pos h5, if_pos h6, if_pos h7, if_pos (show q = wrap64 ((wk.length : Int) - 1) ∧ rs > 0 from ⟨h4, h5⟩), if_pos h3]
   by_cases h8 : c = rd wk q
   ·
    rw [if_pos h8, if_pos h8]
   ·
    rw [if_neg h8, if_neg h8]
  ·
   rw [if_pos h4, if_neg h5, if_pos h6, if_pos h7, if_neg (show ¬ (q = wrap64 ((wk.length : Int) - 1) ∧ rs > 0) from fun h => h5 h.2), if_pos h3]
   by_cases h8 : a = rd wk q
   ·
    rw [if_pos h8, if_pos h8]
   ·
    rw [if_neg h8, if_neg h8]
 ·
  rw [if_neg h4, if_pos h6, if_pos h7, if_neg (show ¬ (q = wrap64 ((wk.length : Int) - 1) ∧ rs > 0) from fun h => h4 h.1), if_pos h3]
  by_cases h8 : a = rd wk q
  ·
   rw [if_pos h8, if_pos h8]
  ·
   rw [if_neg h8, if_neg h8]
set_option maxHeartbeats 8000000 in
set_option maxRecDepth 100000 in
theorem spec_DeltaOf.takeC {w : World} {base : Nat} {vo : Value} {l : List S94} (q : Int) (hr : Kd.R k94 94 w base (fun _ => True) vo l) (hbase : base ≤ w.heap.size) (hlen : l.length ≤ 30000) :
 Calls Tryd.prog 85 #[vo, .int .i64 q] w fun e w' => ∃ v0_ : Value, e = .returned v0_ ∧ Kd.R k94 94 w' base (fun _ => True) v0_ (spec_DeltaOf.take l q) ∧ Below base w w' := by
 obtain ⟨A8, c8, rfl, _, _⟩ := Kd.R_reads hr
 obtain ⟨gb, hgb⟩ : ∃ b : Bool, b = decide (l ≠ [] ∧ (impl_delta.last l).f0 = 1 ∧ wrap64 ((impl_delta.last l).f2 + (impl_delta.last l).f3) = q) := ⟨_, rfl⟩
 have HGB := Aside0.mk hgb
 have HR0 := Aside0.mk hr
 have HLEN := Aside0.mk (show (l.length : Int) ≤ 30000 by omega)
 obtain ⟨L5, hL5⟩ : ∃ z : Int, z = (l.length : Int) - 1 := ⟨_, rfl⟩
 have hlw : IntKind.i64.wrap ((l.length : Int) - 1) = L5 := by have := HLEN.out; rw [hL5]; exact impl_delta.w1 (by omega)
 have HL5 := Aside0.mk hL5
 obtain ⟨T, hT⟩ : ∃ T, T = spec_DeltaOf.take l q := ⟨_, rfl⟩
 rw [← hT]
 have HTK := Aside0.mk hT
 clear hgb hr hlen hL5 hT
 go_enter Tryd.func85, Tryd.ntmps85
 go_upto_region 2 with fail
 go_cut [33] (fun v33 wc => v33 = .bool gb ∧ Aside0 (Below w.heap.size w wc))
 case first =>
  by_cases hl : l = []
  ·
   obtain rfl : gb = false := by rw [HGB.out]; exact decide_eq_false (fun h => h.1 hl)
   have h1 : decide (L5 ≥ 0) = false := decide_eq_false (by rw [HL5.out, hl]; simp)
   have h2 : decide (0 ≤ L5) = false := h1
   clear hl HGB
   go_quiet (fail)
   try go_wp2
   go_meet
   case rel => exact ⟨by first | rfl | simp, ⟨pw_below_drewN (Below.refl _ _) _⟩⟩
  ·
   have hp := List.length_pos_iff.2 hl
   obtain ⟨m, hm⟩ : ∃ m, l.length = m + 1 := ⟨l.length - 1, by omega⟩
   obtain ⟨go, cap, e, hb, _⟩ := Kd.R_form HR0.out hp
   obtain ⟨rfl, rfl⟩ : A8 = some ⟨go, 0, none⟩ ∧ c8 = cap := by injection e with a _ b; exact ⟨a, b⟩
   obtain ⟨c0, c1, c2', c3', f1, f3, SC, ST⟩ := impl_delta.lastR HR0.out hm
   obtain rfl : L5 = (m : Int) := by rw [HL5.out]; omega
   have h1 : decide ((m : Int) ≥ 0) = true := decide_eq_true (by omega)
   have h2 : decide (0 ≤ (m : Int)) = true := decide_eq_true (by omega)
   have hm0 : (0 : Int) ≤ (m : Int) := by omega
   have hm1 : (m : Int) < (l.length : Int) := by omega
   obtain ⟨x, hx⟩ : ∃ x, x = impl_delta.last l := ⟨_, rfl⟩
   rw [← hx] at c0 c1 c2' c3' HGB
   have hsw : IntKind.i64.wrap (x.f2 + x.f3) = wrap64 (x.f2 + x.f3) := i64_w _
   have HM := Aside0.mk hm
   clear SC ST hp e hm f1 f3 c1 hx hlw HL5
   by_cases hk : x.f0 = 1
   ·
    have hkb : (x.f0 == 1) = true := by rw [hk]; rfl
    by_cases hq : wrap64 (x.f2 + x.f3) = q
    ·
     obtain rfl : gb = true := by rw [HGB.out]; exact decide_eq_true ⟨hl, hk, hq⟩
     have hqb : (wrap64 (x.f2 + x.f3) == q) = true := by rw [hq]; simp
     clear hl HGB hk hq
     go_quiet (fail)
     try go_wp2
     go_meet
     case rel => exact ⟨by first | rfl | simp, ⟨pw_below_drewN (Below.refl _ _) _⟩⟩
    ·
     obtain rfl : gb = false := by rw [HGB.out]; exact decide_eq_false (fun h => hq h.2.2)
     have hqb : (wrap64 (x.f2 + x.f3) == q) = false := by simp [hq]
     clear hl HGB hk hq
     go_quiet (fail)
     try go_wp2
     go_meet
     case rel => exact ⟨by first | rfl | simp, ⟨pw_below_drewN (Below.refl _ _) _⟩⟩
   ·
    have hkb : (x.f0 == 1) = false := by simp [hk]
    obtain rfl : gb = false := by rw [HGB.out]; exact decide_eq_false (fun h => hk h.2.1)
    clear hl HGB hk
    go_quiet (fail)
    try go_wp2
    go_meet
    case rel => exact ⟨by first | rfl | simp, ⟨pw_below_drewN (Below.refl _ _) _⟩⟩
 case rest =>
  obtain ⟨rfl, HB0⟩ := hcut
  have HR := Aside0.mk (Kd.R_below HR0.out HB0.out)
  have HB := Aside0.mk (show Below base w wc from HB0.out.mono hbase)
  cases gb with
  | false =>
   obtain rfl : T = l ++ [⟨1, (⟨#[]⟩ : ByteArray), q, 1⟩] := HTK.out.trans (show spec_DeltaOf.take l q = l ++ [⟨1, (⟨#[]⟩ : ByteArray), q, 1⟩] from if_neg (of_decide_eq_false HGB.out.symm))
   clear HGB HTK
   go_wp2_with (first | ((with_reducible refine gate_builtin (b := .append) (xs := #[.tmp 45, .tmp 48]) rfl ?_); at_builtin; refine Kd.R_append k94 (w0 := w) base rfl (.tmp 45) (.tmp 48) 54 94 (.agg #[(.int .i64 0), (.string ⟨#[]⟩), (.int .i64 0), (.int .i64 0)]) 40 rfl Tryd.underlying54 impl_delta.i94 rfl (by decide) (by omega) _ l (⟨1, (⟨#[]⟩ : ByteArray), q, 1⟩ : S94) [.int .i64 1, .string (⟨#[]⟩ : ByteArray), .int .i64 q, .int .i64 1] (fun _ => True) (fun _ => False) rfl rfl ?aP (fun _ hk => hk.elim) (fun _ _ => trivial) ?aO ?aB ?aS ?aL ?_; (case aP => exact k94_mkM _ _ _ (⟨1, (⟨#[]⟩ : ByteArray), q, 1⟩ : S94)); (case aB => exact HB.out); (case aO => exact HR.out); (case aS => exact Nat.le_trans hbase HB0.out.size); (case aL => have := HLEN.out; omega); intro v6 w6 ho6 hb6 hg6 hat6; clear hg6 hat6; have n0_ := Aside0.mk hb6; have n1_ := Aside0.mk ho6; clear HB HR hb6 ho6; have HB := n0_; have HR := n1_; clear n0_ n1_))
   go_ret
   exact ⟨_, rfl, HR.out, HB.out⟩
  | true =>
   have h3 := of_decide_eq_true HGB.out.symm
   obtain rfl : T = impl_delta.set l ⟨(impl_delta.last l).f0, (impl_delta.last l).f1, (impl_delta.last l).f2, wrap64 ((impl_delta.last l).f3 + 1)⟩ := HTK.out.trans (if_pos h3)
   have hp := List.length_pos_iff.2 h3.1
   obtain ⟨m, hm⟩ : ∃ m, l.length = m + 1 := ⟨l.length - 1, by omega⟩
   obtain ⟨go, cap, e2, hgo, _⟩ := Kd.R_form HR.out hp
   obtain ⟨rfl, rfl⟩ : A8 = some ⟨go, 0, none⟩ ∧ c8 = cap := by injection e2 with a _ b; exact ⟨a, b⟩
   obtain ⟨c0, c1, c2', c3', f1, f3, SC, ST⟩ := impl_delta.lastR HR.out hm
   obtain rfl : L5 = (m : Int) := by rw [HL5.out]; omega
   have hm0 : (0 : Int) ≤ (m : Int) := by omega
   have hm1 : (m : Int) < (l.length : Int) := by omega
   have hcw : IntKind.i64.wrap ((impl_delta.last l).f3 + 1) = wrap64 ((impl_delta.last l).f3 + 1) := i64_w _
   have n0_ := Aside0.mk (SC (wrap64 ((impl_delta.last l).f3 + 1)))
   have hlen2 : (impl_delta.set l ⟨(impl_delta.last l).f0, (impl_delta.last l).f1, (impl_delta.last l).f2, wrap64 ((impl_delta.last l).f3 + 1)⟩).length = l.length := by unfold impl_delta.set; rw [List.length_set]
   rw [hlen2] at n0_
   have n1_ := Aside0.mk (HB.out.setCell (p := ⟨go, m * 4 + 3, none⟩) hgo (.int .i64 (wrap64 ((impl_delta.last l).f3 + 1))))
   clear SC ST e2 h3 HGB HTK hp hm hlen2 hlw HL5
   go_wp2
   go_ret
   exact ⟨_, rfl, n0_.out, n1_.out⟩
theorem spec_DeltaOf.first_step (H : Int → Bool) (d i : Nat) : spec_DeltaOf.first H (d + 1) i = if H (i : Int) = true then (i : Int) else spec_DeltaOf.first H d (i + 1) := rfl
def spec_DeltaOf.T40_9 : Bool × List (List Nat × List Nat) := (true, [([], []), ([0], [0]), ([1], [1]), ([2], [2]), ([2], [2]), ([3, 4, 2], [2, 3, 4]), ([5, 2], [2, 5]), ([6, 2], [2, 6]), ([7, 2], [2, 7]), ([2, 8], [2, 8]), ([9, 2], [9]), ([10], [10]), ([10], [10]), ([10], [10]), ([12, 13, 10], [10, 12, 13]), ([14, 10], [10, 14]), ([15, 10], [10, 15]), ([10], [10]), ([10], [10]), ([17, 18, 10], [10, 17, 18]), ([19, 10], [10, 19]), ([20, 10], [10, 20]), ([16, 21, 10], [10, 16, 21]), ([10], [10]), ([10], [10]), ([10], [10]), ([10], [10]), ([11, 22, 23, 24, 25, 26, 10, 10], [10, 11, 22, 23, 24, 25, 26]), ([10, 27], [10, 27])])
def spec_DeltaOf.B40_9 : List Nat := [0, 1, 3, 7, 7, 31, 63, 127, 255, 511, 1023, 2047, 2047, 2047, 14335, 30719, 63487, 2047, 2047, 395263, 919551, 1968127, 4192255, 2047, 2047, 2047, 2047, 134217727, 268435455]
theorem spec_DeltaOf.tab40_9 : rtab .any (opsOf Tryd.f40 9) = spec_DeltaOf.T40_9 := by kernel_rfl
theorem spec_DeltaOf.bits40_9 : waitsOk spec_DeltaOf.T40_9.2 spec_DeltaOf.B40_9 = true := by kernel_rfl
def spec_DeltaOf.T40_23 : Bool × List (List Nat × List Nat) := (true, [([], []), ([], []), ([], []), ([], []), ([2, 3], [2, 3]), ([4], [4]), ([5], [5]), ([], []), ([7], [7]), ([6, 8], [6, 8]), ([0, 1, 0, 1, 2, 3, 4, 5, 6, 7, 8, 9], [0, 1]), ([10, 0, 1, 2, 3, 4, 5, 6, 7, 8, 9], [10]), ([11, 9, 0, 1, 2, 3, 4, 5, 6, 7, 8, 9], [9, 11])])
def spec_DeltaOf.B40_23 : List Nat := [0, 0, 0, 0, 12, 28, 60, 0, 128, 508, 1023, 2047, 4095]
theorem spec_DeltaOf.tab40_23 : rtab .any (opsOf Tryd.f40 23) = spec_DeltaOf.T40_23 := by kernel_rfl
theorem spec_DeltaOf.bits40_23 : waitsOk spec_DeltaOf.T40_23.2 spec_DeltaOf.B40_23 = true := by kernel_rfl
set_option maxHeartbeats 16000000 in
set_option maxRecDepth 100000 in
theorem spec_DeltaOf.calls (k : Nat) (sz rs : Int) (A2 : Option Addr) (c2 : Nat) (wk : List Int) (A3 : Option Addr) (c3 : Nat) (st : List ByteArray) (sd : Int) (s0 : ByteArray) (r : List S94) (w : World)
 (hr2 : Kd.C (Kd.int .u32) w A2 wk.length wk) (hc2 : wk.length ≤ c2) (hr3 : Kd.C Kd.string w A3 st.length st) (hc3 : st.length ≤ c3) (h : spec_DeltaOf.f k sz rs wk st sd s0 = some r) :
 Calls Tryd.prog 40 #[.agg #[.int .i64 sz, .int .i64 rs, .slice A2 wk.length c2, .slice A3 st.length c3], .int .u32 sd, .string s0] w fun e w' => ∃ v0_ : Value, e = .returned (v0_) ∧ Kd.R k94 94 w' w.heap.size (fun _ => True) v0_ r ∧ Below w.heap.size w w' := by
 unfold spec_DeltaOf.f at h
 obtain ⟨ok, hok, h⟩ := Option.bind_eq_some_iff.mp h
 have MOK := Aside0.mk (show ∀ w1, Below w.heap.size w w1 → Calls Tryd.prog 82 #[.agg #[.int .i64 sz, .int .i64 rs, .slice A2 wk.length c2, .slice A3 st.length c3]] w1 fun e w' => e = .returned (.bool ok) ∧ Below w1.heap.size w1 w' from fun w1 hb => spec_SigOk.calls k sz rs A2 c2 wk A3 c3 st ok w1 (Kd.C_below hr2 hb) hc2 (Kd.C_below hr3 hb) hc3 hok)
 have HR2 := Aside0.mk hr2
 have HR3 := Aside0.mk hr3
 have HC2 := Aside0.mk hc2
 have HC3 := Aside0.mk hc3
 have HH := Aside0.mk h
 clear hr2 hr3 hc2 hc3 hok h
 go_enter Tryd.func40, Tryd.ntmps40
 go_upto_region 1 with fail
 have B3 := Aside0.mk (blk_new w (.cells #[.int .i64 sz, .int .i64 rs, .slice A2 wk.length c2, .slice A3 st.length c3] 39 (0, 0)))
 have HB0 := Aside0.mk (below_alloc (Below.refl w.heap.size w) (.cells #[.int .i64 sz, .int .i64 rs, .slice A2 wk.length c2, .slice A3 st.length c3] 39 (0, 0)))
 generalize w.alloc _ = W1 at B3 HB0 ⊢
 have hlt3 := blk_lt B3.out
 have hsz1 := HB0.out.size
 go_upto_region 2 with (first | ((with_reducible refine gate_dst (N := 16) rfl ?_); refine Kd.R_lit k94 _ 94 ?hg (N := 16) ?hd (xs := ([] : List (S94))) (inner := []) (ok := fun _ => True) (okp := fun _ => True) ?hr ?hp (fun _ hk => hk) trivial (Below.refl _ _) (Nat.le_refl _) (by simp) ?_; (case hd => rfl); (case hg => rfl); (case hr => first | (go_simp; done) | (go_simp; rfl)); (case hp => exact (Reps.none _ _)); intro v7 w2 hR hB _ _))
 have HR := Aside0.mk hR
 have HB := Aside0.mk hB
 clear hR hB
 have HSG := Aside0.mk ((HB.out.block _ hlt3).trans B3.out)
 have B30 := B3
 obtain ⟨y0, y1, y2, y3⟩ := impl_delta.row4 HSG.out
 have MOK2 : ∀ w1, Below W1.heap.size W1 w1 → Calls Tryd.prog 82 #[.agg #[.int .i64 sz, .int .i64 rs, .slice A2 wk.length c2, .slice A3 st.length c3]] w1 fun e w' => e = .returned (.bool ok) ∧ Below w1.heap.size w1 w' := fun w1 hb => MOK.out w1 (below_step HB0.out hb)
 cases ok with
 | false =>
  obtain rfl : r = [] := (Option.some.inj HH.out).symm
  go_wp2_with (first | (go_at_call 82; refine (MOK2 _ HB.out).mono ?_; rintro e w5 ⟨rfl, hb5⟩))
  go_ret
  exact ⟨_, rfl, Kd.R_lower (Kd.R_below HR.out hb5) hsz1, below_step HB0.out (below_step HB.out hb5)⟩
 | true =>
  have h := HH.out
  rw [if_pos rfl] at h
  by_cases hbig : (s0.size : Int) > 20000
  ·
   rw [if_pos hbig] at h
   obtain rfl : r = [] := (Option.some.inj h).symm
   have hbb : decide ((s0.size : Int) > 20000) = true := decide_eq_true hbig
   have hbb2 : decide (20000 < (s0.size : Int)) = true := hbb
   clear h HH
   go_wp2_with (first | (go_at_call 82; refine (MOK2 _ HB.out).mono ?_; rintro e w5 ⟨rfl, hb5⟩))
   go_ret
   exact ⟨_, rfl, Kd.R_lower (Kd.R_below HR.out hb5) hsz1, below_step HB0.out (below_step HB.out hb5)⟩
  rw [if_neg hbig] at h
  by_cases hg : spec_DeltaOf.ok sz rs wk st = true
  case neg => rw [if_neg hg] at h; cases h
  rw [if_pos hg] at h
  unfold spec_DeltaOf.ok at hg
  simp only [decide_eq_true_eq] at hg
  obtain ⟨hz1, hz2, hz3, hz4, hwl, hwe⟩ := hg
  have hbb : decide ((s0.size : Int) > 20000) = false := decide_eq_false hbig
  have hbb2 : decide (20000 < (s0.size : Int)) = false := hbb
  have MHq := Aside0.mk (show ∀ (a : Int) (b : ByteArray) (c : Int) (d : ByteArray) (w1 : World) (q : Int), Below W1.heap.size W1 w1 → Calls Tryd.prog 84 #[.agg #[.int .i64 sz, .int .i64 rs, .slice A2 wk.length c2, .slice A3 st.length c3], .int .i64 q, .int .u32 a, .string b, .int .u32 c, .string d] w1 fun e w' => e = .returned (.bool (spec_DeltaOf.here sz rs wk st a b c d q)) ∧ Below w1.heap.size w1 w' from fun a b c d w1 q hb => spec_l06Here.calls 1 sz rs A2 c2 wk A3 c3 st q a b c d _ w1 (Kd.C_below HR2.out (below_step HB0.out hb)) HC2.out (Kd.C_below HR3.out (below_step HB0.out hb)) HC3.out (spec_DeltaOf.here_some sz rs wk st a b c d q hwe))
  have HRUN := Aside0.mk h
  have HZ1 := Aside0.mk (show 1 ≤ sz ∧ 0 ≤ rs ∧ wk.length ≤ 2500 by omega)
  clear h HH hwe HR2 HR3 HC2 HC3 hz1 hz2 hz3 hz4 hwl
  go_wp2_with (first | (go_at_call 82; refine (MOK2 _ HB.out).mono ?_; rintro e w5 ⟨rfl, hb5⟩; have n0_ := Aside0.mk (below_step HB.out hb5); have n1_ := Aside0.mk (Kd.R_below HR.out hb5); clear HB HR hb5; have HB := n0_; have HR := n1_; clear n0_ n1_))
  clear MOK2 MOK HSG y0 y1 y2 y3
  have HB1 := Aside0.mk hbig
  clear hbig hbb hbb2
  go_loopg [2, 7] s0.size (fun kq v2 v7 w' => ∃ (s : ByteArray) (l : List S94), v2 = .string s ∧ Aside0 (s.size ≤ kq) ∧ Aside0 (spec_DeltaOf.run k sz rs wk st sd kq s l = some r) ∧ Aside0 (l.length + s.size ≤ 20000) ∧ Aside0 (Kd.R k94 94 w' W1.heap.size (fun _ => True) v7 l) ∧ Aside0 (Below W1.heap.size W1 w'))
  case atStart => exact ⟨s0, [], rfl, ⟨Nat.le_refl _⟩, HRUN, ⟨by have := HB1.out; simp; omega⟩, HR, HB⟩
  case round =>
   clear HRUN HR HB HB1
   obtain ⟨s, l, rfl, HI, HRUN, HLEN, HR, HB⟩ := hrel
   by_cases hlt : (s.size : Int) > 0
   ·
    have hltb : decide ((s.size : Int) > 0) = true := decide_eq_true hlt
    have hltb2 : decide (0 < (s.size : Int)) = true := hltb
    obtain ⟨k1, rfl⟩ : ∃ k1, gk = k1 + 1 := ⟨gk - 1, by have := HI.out; omega⟩
    have e := HRUN.out
    simp only [spec_DeltaOf.run] at e
    rw [if_pos hlt] at e
    obtain ⟨⟨sa, sb⟩, hs1, e⟩ := Option.bind_eq_some_iff.mp e
    obtain ⟨⟨sc, sd2⟩, hs2, e⟩ := Option.bind_eq_some_iff.mp e
    simp only at e
    obtain ⟨H, hH⟩ : ∃ H : Int → Bool, H = spec_DeltaOf.here sz rs wk st sa sb sc sd2 := ⟨_, rfl⟩
    have MH := Aside0.mk (show ∀ (w1 : World) (q : Int), Below W1.heap.size W1 w1 → Calls Tryd.prog 84 #[.agg #[.int .i64 sz, .int .i64 rs, .slice A2 wk.length c2, .slice A3 st.length c3], .int .i64 q, .int .u32 sa, .string sb, .int .u32 sc, .string sd2] w1 fun e w' => e = .returned (.bool (H q)) ∧ Below w1.heap.size w1 w' from fun w1 q hb => by rw [hH]; exact MHq.out sa sb sc sd2 w1 q hb)
    rw [← hH] at e
    have HHN := Aside0.mk (show ∀ z, H z = true → 0 ≤ z from fun z hz => by
     rw [hH] at hz
     unfold spec_DeltaOf.here at hz
     by_cases h1 : z < 0 ∨ z ≥ (wk.length : Int)
     ·
      rw [if_pos h1] at hz; cases hz
     ·
      omega)
    have M1 := Aside0.mk (show ∀ w1, Calls Tryd.prog 83 #[.int .u32 sd, .string s, .int .i64 sz] w1 fun e w' => e = .returned (.tuple #[.int .u32 sa, .string sb]) ∧ Below w1.heap.size w1 w' from fun w1 => spec_l06Sums.calls k sd s sz sa sb w1 hs1)
    have M2 := Aside0.mk (show ∀ w1, Calls Tryd.prog 83 #[.int .u32 sd, .string s, .int .i64 rs] w1 fun e w' => e = .returned (.tuple #[.int .u32 sc, .string sd2]) ∧ Below w1.heap.size w1 w' from fun w1 => spec_l06Sums.calls k sd s rs sc sd2 w1 hs2)
    obtain ⟨q, hq⟩ : ∃ q, q = spec_DeltaOf.which H wk.length l := ⟨_, rfl⟩
    rw [← hq] at e
    have HE := Aside0.mk e
    have HQ := Aside0.mk hq
    clear e hs1 hs2 hH hq HRUN MHq
    obtain ⟨A8, c8, rfl, _, _⟩ := Kd.R_reads HR.out
    have HSG := Aside0.mk ((HB.out.block _ hlt3).trans B30.out)
    obtain ⟨y0, y1, y2, y3⟩ := impl_delta.row4 HSG.out
    obtain ⟨L5, hL5⟩ : ∃ z : Int, z = (l.length : Int) - 1 := ⟨_, rfl⟩
    have hlw : IntKind.i64.wrap ((l.length : Int) - 1) = L5 := by have := HLEN.out; rw [hL5]; exact impl_delta.w1 (by omega)
    have HL5 := Aside0.mk hL5
    clear hL5
    go_upto_region 6 with (first | (go_at_call 83; refine (M1.out _).mono ?_; rintro e w5 ⟨rfl, hb5⟩))
    have n0_ := Aside0.mk (below_step HB.out hb5)
    have n1_ := Aside0.mk (Kd.R_below HR.out hb5)
    clear HB HR hb5 HSG y0 y1 y2 y3
    have HB := n0_
    have HR := n1_
    have HSG := Aside0.mk ((HB.out.block _ hlt3).trans B30.out)
    obtain ⟨y0, y1, y2, y3⟩ := impl_delta.row4 HSG.out
    clear n0_ n1_
    go_upto_region 9 with (first | (go_at_call 83; refine (M2.out _).mono ?_; rintro e w6 ⟨rfl, hb6⟩))
    have n0_ := Aside0.mk (below_step HB.out hb6)
    have n1_ := Aside0.mk (Kd.R_below HR.out hb6)
    clear HB HR hb6 HSG y0 y1 y2 y3
    have HB := n0_
    have HR := n1_
    have HSG := Aside0.mk ((HB.out.block _ hlt3).trans B30.out)
    obtain ⟨y0, y1, y2, y3⟩ := impl_delta.row4 HSG.out
    clear n0_ n1_
    obtain ⟨gb, hgb⟩ : ∃ b : Bool, b = decide (l ≠ [] ∧ (impl_delta.last l).f0 = 1 ∧ H (wrap64 ((impl_delta.last l).f2 + (impl_delta.last l).f3)) = true) := ⟨_, rfl⟩
    have HGB := Aside0.mk hgb
    clear hgb
    go_cut [76] (fun v76 wc => v76 = .bool gb ∧ Aside0 (Kd.R k94 94 wc W1.heap.size (fun _ => True) (.slice A8 l.length c8) l) ∧ Aside0 (Below W1.heap.size W1 wc))
    case first =>
     by_cases hl : l = []
     ·
      obtain rfl : gb = false := by rw [HGB.out]; exact decide_eq_false (fun h => h.1 hl)
      have h1 : decide (L5 ≥ 0) = false := decide_eq_false (by rw [HL5.out, hl]; simp)
      have h2 : decide (0 ≤ L5) = false := h1
      clear hl HGB
      go_quiet (fail)
      try go_wp2
      go_meet
      case rel => exact ⟨by first | rfl | simp, ⟨Kd.R_drewN HR.out _⟩, ⟨pw_below_drewN HB.out _⟩⟩
     ·
      have hp := List.length_pos_iff.2 hl
      obtain ⟨m, hm⟩ : ∃ m, l.length = m + 1 := ⟨l.length - 1, by omega⟩
      obtain ⟨go, cap, e, hb, _⟩ := Kd.R_form HR.out hp
      obtain ⟨rfl, rfl⟩ : A8 = some ⟨go, 0, none⟩ ∧ c8 = cap := by injection e with a _ b; exact ⟨a, b⟩
      obtain ⟨c0, c1, c2', c3', f1, f3, SC, ST⟩ := impl_delta.lastR HR.out hm
      obtain rfl : L5 = (m : Int) := by rw [HL5.out]; omega
      have h1 : decide ((m : Int) ≥ 0) = true := decide_eq_true (by omega)
      have h2 : decide (0 ≤ (m : Int)) = true := decide_eq_true (by omega)
      have hm0 : (0 : Int) ≤ (m : Int) := by omega
      have hm1 : (m : Int) < (l.length : Int) := by omega
      obtain ⟨x, hx⟩ : ∃ x, x = impl_delta.last l := ⟨_, rfl⟩
      rw [← hx] at c0 c1 c2' c3' HGB
      have HM := Aside0.mk hm
      clear SC ST hp e hm f1 f3 c1 hx hlw HL5
      by_cases hk : x.f0 = 1
      ·
       obtain ⟨nx, hnx⟩ : ∃ z, z = wrap64 (x.f2 + x.f3) := ⟨_, rfl⟩
       have hsw : IntKind.i64.wrap (x.f2 + x.f3) = nx := by rw [hnx]; exact i64_w _
       obtain rfl : gb = H nx := by rw [HGB.out, ← hnx]; cases hh : H nx <;> simp [hl, hk, hh]
       rw [hk] at c0
       have hm02 := eq_true hm0
       have hm12 := eq_true hm1
       clear hl HGB hk hnx
       refine start_ (n := 29) (S := fun w' => w'.cell? ⟨w.heap.size, 0, none⟩ = some (.int .i64 sz) ∧ w'.cell? ⟨w.heap.size, 1, none⟩ = some (.int .i64 rs) ∧ w'.cell? ⟨w.heap.size, 2, none⟩ = some (.slice A2 wk.length c2) ∧ w'.cell? ⟨w.heap.size, 3, none⟩ = some (.slice A3 st.length c3) ∧ w'.cell? ⟨go, m * 4, none⟩ = some (.int .i64 1) ∧ w'.cell? ⟨go, m * 4 + 2, none⟩ = some (.int .i64 x.f2) ∧ w'.cell? ⟨go, m * 4 + 3, none⟩ = some (.int .i64 x.f3)) (ds := []) (bm 29 0) (by kernel_rfl) rfl rfl ⟨y0, y1, y2, y3, c0, c2', c3'⟩ (fun hHeld => ?_); refine with_tabW spec_DeltaOf.tab40_9 spec_DeltaOf.bits40_9 (fun HT_ HW_ => ?_)
       have HBr := Aside0.mk (below_drew (Below.refl w6.heap.size w6))
       generalize w6.drew = wd at HBr hHeld ⊢
       refine pure_ (i := 0) (N := some 48) (v := ?_) (a' := ?_) (bm 29 1) rfl rfl (any_of HT_.out (by kernel_rfl)) (fun _ _ _ h => h) (Or.inl ⟨by rfl, ?_⟩) ?_ ?_; rotate_left; · (intro w'; go_simp; with_reducible rfl)
       rotate_left; · (simp only [Act.put, q1, q2, q3, q4, q5, q6, q7]; rfl)
       refine pure_ (i := 1) (N := some 49) (v := ?_) (a' := ?_) (bm 29 3) rfl rfl (any_of HT_.out (by kernel_rfl)) (fun _ _ _ h => h) (Or.inl ⟨by rfl, ?_⟩) ?_ ?_; rotate_left; · (intro w'; go_simp; with_reducible rfl)
       rotate_left; · (simp only [Act.put, q1, q2, q3, q4, q5, q6, q7]; rfl)
       refine pure_ (i := 2) (N := some 50) (v := ?_) (a' := ?_) (bm 29 7) rfl rfl (any_of HT_.out (by kernel_rfl)) (fun _ _ _ h => h) (Or.inl ⟨by rfl, ?_⟩) ?_ ?_; rotate_left; · (intro w'; go_simp; with_reducible rfl)
       rotate_left; · (simp only [Act.put, q1, q2, q3, q4, q5, q6, q7]; rfl)
       refine pure_ (i := 3) (N := some 51) (v := ?_) (a' := ?_) (bm 29 15) rfl rfl (any_of HT_.out (by kernel_rfl)) (fun _ _ _ h => h) (Or.inl ⟨by rfl, ?_⟩) ?_ ?_; rotate_left; · (intro w'; go_simp; with_reducible rfl)
       rotate_left; · (simp only [Act.put, q1, q2, q3, q4, q5, q6, q7]; rfl)
       refine pure_ (i := 4) (N := some 52) (v := ?_) (a' := ?_) (bm 29 31) rfl rfl (any_of HT_.out (by kernel_rfl)) (fun _ _ _ h => h) (Or.inl ⟨by rfl, ?_⟩) ?_ ?_; rotate_left; · (intro w'; go_simp; with_reducible rfl)
       rotate_left; · (simp only [Act.put, q1, q2, q3, q4, q5, q6, q7]; rfl)
       refine pure_ (i := 5) (N := some 53) (v := ?_) (a' := ?_) (bm 29 63) rfl rfl (any_of HT_.out (by kernel_rfl)) (fun _ _ _ h => h) (Or.inl ⟨by rfl, ?_⟩) ?_ ?_; rotate_left; · (intro w'; go_simp; with_reducible rfl)
       rotate_left; · (simp only [Act.put, q1, q2, q3, q4, q5, q6, q7]; rfl)
       refine pure_ (i := 6) (N := some 54) (v := ?_) (a' := ?_) (bm 29 127) rfl rfl (any_of HT_.out (by kernel_rfl)) (fun _ _ _ h => h) (Or.inl ⟨by rfl, ?_⟩) ?_ ?_; rotate_left; · (intro w'; go_simp; with_reducible rfl)
       rotate_left; · (simp only [Act.put, q1, q2, q3, q4, q5, q6, q7]; rfl)
       refine take_ (i := 7) (N := some 55) (v := ?_) (a' := ?_) (bm 29 255) rfl rfl (take_ofW HT_.out HW_.out (by kernel_rfl)) (fun _ _ _ h => h) (Or.inl ⟨by rfl, ?_⟩) hHeld ?_ ?_; rotate_left; · (rintro w' ⟨s0, s1, s2, s3, s4, s5, s6⟩; go_simp; with_reducible rfl)
       rotate_left; · (simp only [Act.put, q1, q2, q3, q4, q5, q6, q7]; rfl)
       refine pure_ (i := 8) (N := some 56) (v := ?_) (a' := ?_) (bm 29 511) rfl rfl (any_of HT_.out (by kernel_rfl)) (fun _ _ _ h => h) (Or.inl ⟨by rfl, ?_⟩) ?_ ?_; rotate_left; · (intro w'; go_simp; with_reducible rfl)
       rotate_left; · (simp only [Act.put, q1, q2, q3, q4, q5, q6, q7]; rfl)
       refine pure_ (i := 9) (N := some 57) (v := ?_) (a' := ?_) (bm 29 1023) rfl rfl (any_of HT_.out (by kernel_rfl)) (fun _ _ _ h => h) (Or.inl ⟨by rfl, ?_⟩) ?_ ?_; rotate_left; · (intro w'; go_simp; with_reducible rfl)
       rotate_left; · (simp only [Act.put, q1, q2, q3, q4, q5, q6, q7]; rfl)
       refine pure_ (i := 10) (N := some 58) (v := ?_) (a' := ?_) (bm 29 2047) rfl rfl (any_of HT_.out (by kernel_rfl)) (fun _ _ _ h => h) (Or.inl ⟨by rfl, ?_⟩) ?_ ?_; rotate_left; · (intro w'; go_simp; with_reducible rfl)
       rotate_left; · (simp only [Act.put, q1, q2, q3, q4, q5, q6, q7]; rfl)
       refine pure_ (i := 12) (N := some 60) (v := ?_) (a' := ?_) (bm 29 6143) rfl rfl (any_of HT_.out (by kernel_rfl)) (fun _ _ _ h => h) (Or.inl ⟨by rfl, ?_⟩) ?_ ?_; rotate_left; · (intro w'; go_simp; with_reducible rfl)
       rotate_left; · (simp only [Act.put, q1, q2, q3, q4, q5, q6, q7]; rfl)
       refine pure_ (i := 13) (N := some 61) (v := ?_) (a' := ?_) (bm 29 14335) rfl rfl (any_of HT_.out (by kernel_rfl)) (fun _ _ _ h => h) (Or.inl ⟨by rfl, ?_⟩) ?_ ?_; rotate_left; · (intro w'; go_simp; with_reducible rfl)
       rotate_left; · (simp only [Act.put, q1, q2, q3, q4, q5, q6, q7]; rfl)
       refine pure_ (i := 14) (N := some 62) (v := ?_) (a' := ?_) (bm 29 30719) rfl rfl (any_of HT_.out (by kernel_rfl)) (fun _ _ _ h => h) (Or.inl ⟨by rfl, ?_⟩) ?_ ?_; rotate_left; · (intro w'; go_simp; with_reducible rfl)
       rotate_left; · (simp only [Act.put, q1, q2, q3, q4, q5, q6, q7]; rfl)
       refine pure_ (i := 15) (N := some 63) (v := ?_) (a' := ?_) (bm 29 63487) rfl rfl (any_of HT_.out (by kernel_rfl)) (fun _ _ _ h => h) (Or.inl ⟨by rfl, ?_⟩) ?_ ?_; rotate_left; · (intro w'; go_simp; with_reducible rfl)
       rotate_left; · (simp only [Act.put, q1, q2, q3, q4, q5, q6, q7]; rfl)
       refine pure_ (i := 17) (N := some 65) (v := ?_) (a' := ?_) (bm 29 194559) rfl rfl (any_of HT_.out (by kernel_rfl)) (fun _ _ _ h => h) (Or.inl ⟨by rfl, ?_⟩) ?_ ?_; rotate_left; · (intro w'; go_simp; with_reducible rfl)
       rotate_left; · (simp only [Act.put, q1, q2, q3, q4, q5, q6, q7]; rfl)
       refine pure_ (i := 18) (N := some 66) (v := ?_) (a' := ?_) (bm 29 456703) rfl rfl (any_of HT_.out (by kernel_rfl)) (fun _ _ _ h => h) (Or.inl ⟨by rfl, ?_⟩) ?_ ?_; rotate_left; · (intro w'; go_simp; with_reducible rfl)
       rotate_left; · (simp only [Act.put, q1, q2, q3, q4, q5, q6, q7]; rfl)
       refine pure_ (i := 19) (N := some 67) (v := ?_) (a' := ?_) (bm 29 980991) rfl rfl (any_of HT_.out (by kernel_rfl)) (fun _ _ _ h => h) (Or.inl ⟨by rfl, ?_⟩) ?_ ?_; rotate_left; · (intro w'; go_simp; with_reducible rfl)
       rotate_left; · (simp only [Act.put, q1, q2, q3, q4, q5, q6, q7]; rfl)
       refine pure_ (i := 20) (N := some 68) (v := ?_) (a' := ?_) (bm 29 2029567) rfl rfl (any_of HT_.out (by kernel_rfl)) (fun _ _ _ h => h) (Or.inl ⟨by rfl, ?_⟩) ?_ ?_; rotate_left; · (intro w'; go_simp; with_reducible rfl)
       rotate_left; · (simp only [Act.put, q1, q2, q3, q4, q5, q6, q7]; rfl)
       refine pure_ (i := 23) (N := some 71) (v := ?_) (a' := ?_) (bm 29 10418175) rfl rfl (any_of HT_.out (by kernel_rfl)) (fun _ _ _ h => h) (Or.inl ⟨by rfl, ?_⟩) ?_ ?_; rotate_left; · (intro w'; go_simp; with_reducible rfl)
       rotate_left; · (simp only [Act.put, q1, q2, q3, q4, q5, q6, q7]; rfl)
       refine pure_ (i := 24) (N := some 72) (v := ?_) (a' := ?_) (bm 29 27195391) rfl rfl (any_of HT_.out (by kernel_rfl)) (fun _ _ _ h => h) (Or.inl ⟨by rfl, ?_⟩) ?_ ?_; rotate_left; · (intro w'; go_simp; with_reducible rfl)
       rotate_left; · (simp only [Act.put, q1, q2, q3, q4, q5, q6, q7]; rfl)
       refine pure_ (i := 25) (N := some 73) (v := ?_) (a' := ?_) (bm 29 60749823) rfl rfl (any_of HT_.out (by kernel_rfl)) (fun _ _ _ h => h) (Or.inl ⟨by rfl, ?_⟩) ?_ ?_; rotate_left; · (intro w'; go_simp; with_reducible rfl)
       rotate_left; · (simp only [Act.put, q1, q2, q3, q4, q5, q6, q7]; rfl)
       refine pure_ (i := 26) (N := some 74) (v := ?_) (a' := ?_) (bm 29 127858687) rfl rfl (any_of HT_.out (by kernel_rfl)) (fun _ _ _ h => h) (Or.inl ⟨by rfl, ?_⟩) ?_ ?_; rotate_left; · (intro w'; go_simp; with_reducible rfl)
       rotate_left; · (simp only [Act.put, q1, q2, q3, q4, q5, q6, q7]; rfl)
       refine take_ (i := 11) (N := some 59) (v := ?_) (a' := ?_) (bm 29 127860735) rfl rfl (take_ofW HT_.out HW_.out (by kernel_rfl)) (fun _ _ _ h => h) (Or.inl ⟨by rfl, ?_⟩) hHeld ?_ ?_; rotate_left; · (rintro w' ⟨s0, s1, s2, s3, s4, s5, s6⟩; go_simp; with_reducible rfl)
       rotate_left; · (simp only [Act.put, q1, q2, q3, q4, q5, q6, q7]; rfl)
       refine take_ (i := 16) (N := some 64) (v := ?_) (a' := ?_) (bm 29 127926271) rfl rfl (take_ofW HT_.out HW_.out (by kernel_rfl)) (fun _ _ _ h => h) (Or.inl ⟨by rfl, ?_⟩) hHeld ?_ ?_; rotate_left; · (rintro w' ⟨s0, s1, s2, s3, s4, s5, s6⟩; go_simp; with_reducible rfl)
       rotate_left; · (simp only [Act.put, q1, q2, q3, q4, q5, q6, q7]; rfl)
       refine take_ (i := 21) (N := some 69) (v := ?_) (a' := ?_) (bm 29 130023423) rfl rfl (take_ofW HT_.out HW_.out (by kernel_rfl)) (fun _ _ _ h => h) (Or.inl ⟨by rfl, ?_⟩) hHeld ?_ ?_; rotate_left; · (rintro w' ⟨s0, s1, s2, s3, s4, s5, s6⟩; go_simp; with_reducible rfl)
       rotate_left; · (simp only [Act.put, q1, q2, q3, q4, q5, q6, q7]; rfl)
       refine pure_ (i := 22) (N := some 70) (v := ?_) (a' := ?_) (bm 29 134217727) rfl rfl (any_of HT_.out (by kernel_rfl)) (fun _ _ _ h => h) (Or.inl ⟨by rfl, ?_⟩) ?_ ?_; rotate_left; · (intro w'; go_simp; with_reducible rfl)
       rotate_left; · (simp only [Act.put, q1, q2, q3, q4, q5, q6, q7]; rfl)
       refine one_ (i := 27) (N := some 75) (bm 29 268435455) rfl rfl (one_of HT_.out (by kernel_rfl)) (by decide) (fun K hK => ?_)
       refine goes_ Tryd.func84 (by kernel_rfl) rfl #[.agg #[.int .i64 sz, .int .i64 rs, .slice A2 wk.length c2, .slice A3 st.length c3], .int .i64 nx, .int .u32 sa, .string sb, .int .u32 sc, .string sd2] (by rfl) rfl rfl (by (try simp only [List.map_toArray, List.map_cons, List.map_nil]); first | done | rfl) ?_
       with_reducible refine (MH.out _ nx (below_step HB.out HBr.out)).mono ?_
       rintro e w7 ⟨rfl, hb⟩
       refine ⟨_, rfl, ?_⟩
       have n0_ := Aside0.mk (below_step HBr.out hb)
       clear HBr hb
       have HBr := n0_
       clear n0_
       refine hK.out _ _ ⟨pw_cell_below HBr.out y0, pw_cell_below HBr.out y1, pw_cell_below HBr.out y2, pw_cell_below HBr.out y3, pw_cell_below HBr.out c0, pw_cell_below HBr.out c2', pw_cell_below HBr.out c3'⟩ (fun hHeld => ?_)
       clear hK K
       refine norm_ (a' := ?_) ?_ ?_
       rotate_left
       · (show Act.put _ (some 75) _ = _; simp only [Act.put, q1, q2, q3, q4, q5, q6, q7]; rfl)
       refine pure_ (i := 28) (N := some 76) (v := ?_) (a' := ?_) (bm 29 536870911) rfl rfl (any_of HT_.out (by kernel_rfl)) (fun _ _ _ h => h) (Or.inl ⟨by rfl, ?_⟩) ?_ ?_; rotate_left; · (intro w'; go_simp; with_reducible rfl)
       rotate_left; · (simp only [Act.put, q1, q2, q3, q4, q5, q6, q7]; rfl)
       refine done_ (done_of HT_.out (by kernel_rfl)) ?_
       clear hHeld HT_ HW_
       try go_wp2
       go_meet
       case rel => exact ⟨by first | rfl | simp, ⟨Kd.R_below HR.out HBr.out⟩, ⟨below_step HB.out HBr.out⟩⟩
      ·
       have hkb : (x.f0 == 1) = false := by simp [hk]
       obtain rfl : gb = false := by rw [HGB.out]; exact decide_eq_false (fun h => hk h.2.1)
       clear hl HGB hk
       go_quiet (fail)
       try go_wp2
       go_meet
       case rel => exact ⟨by first | rfl | simp, ⟨Kd.R_drewN HR.out _⟩, ⟨pw_below_drewN HB.out _⟩⟩
    case rest =>
    clear HB HR HSG y0 y1 y2 y3
    obtain ⟨rfl, HR, HB⟩ := hcut
    obtain ⟨tk, htk⟩ : ∃ z : Int, z = if gb = true then wrap64 ((impl_delta.last l).f2 + (impl_delta.last l).f3) else -1 := ⟨_, rfl⟩
    have HTK := Aside0.mk htk
    have hq0 : (0 ≤ tk ∧ tk = q) ∨ (tk = -1 ∧ q = spec_DeltaOf.first H wk.length 0) := by
     have e := HQ.out
     unfold spec_DeltaOf.which at e
     cases gb with
     | true =>
      have h := of_decide_eq_true HGB.out.symm
      rw [if_pos h] at e
      rw [if_pos rfl] at htk
      exact .inl ⟨by rw [htk]; exact HHN.out _ h.2.2, by rw [htk, e]⟩
     | false =>
      rw [if_neg (of_decide_eq_false HGB.out.symm)] at e
      rw [if_neg (by simp)] at htk
      exact .inr ⟨htk, e⟩
    have HQ0 := Aside0.mk hq0
    clear htk hq0 HQ
    go_upto_if 76 with (fail)
    go_cut [12] (fun v12 wd => v12 = .int .i64 tk ∧ Aside0 (Kd.R k94 94 wd W1.heap.size (fun _ => True) (.slice A8 l.length c8) l) ∧ Aside0 (Below W1.heap.size W1 wd))
    case first =>
     cases gb with
     | false =>
      obtain rfl : tk = -1 := HTK.out
      go_wp2
      go_meet
      case rel => exact ⟨rfl, HR, HB⟩
     | true =>
      have h := of_decide_eq_true HGB.out.symm
      obtain rfl : tk = wrap64 ((impl_delta.last l).f2 + (impl_delta.last l).f3) := HTK.out
      have hp := List.length_pos_iff.2 h.1
      obtain ⟨m, hm⟩ : ∃ m, l.length = m + 1 := ⟨l.length - 1, by omega⟩
      obtain ⟨go, cap, e, hb, _⟩ := Kd.R_form HR.out hp
      obtain ⟨rfl, rfl⟩ : A8 = some ⟨go, 0, none⟩ ∧ c8 = cap := by injection e with a _ b; exact ⟨a, b⟩
      obtain ⟨c0, c1, c2', c3', f1, f3, SC, ST⟩ := impl_delta.lastR HR.out hm
      obtain rfl : L5 = (m : Int) := by rw [HL5.out]; omega
      have hm0 : (0 : Int) ≤ (m : Int) := by omega
      have hm1 : (m : Int) < (l.length : Int) := by omega
      have hsw : IntKind.i64.wrap ((impl_delta.last l).f2 + (impl_delta.last l).f3) = wrap64 ((impl_delta.last l).f2 + (impl_delta.last l).f3) := i64_w _
      clear SC ST hp e hm f1 f3 c0 c1 h HTK HGB HL5 hlw
      go_upto_region 10 with fail
      go_quiet (fail)
      try go_wp2
      go_meet
      case rel => exact ⟨by first | rfl | simp [hsw], ⟨Kd.R_drewN HR.out _⟩, ⟨pw_below_drewN HB.out _⟩⟩
    case rest =>
    clear HB HR
    obtain ⟨rfl, HR, HB⟩ := hcut
    clear HTK HGB
    go_wp2
    go_loopg [12, 14] wk.length (fun kq v12 v14 w' => ∃ (i : Nat) (z : Int), v14 = .int .i64 (i : Int) ∧ v12 = .int .i64 z ∧ Aside0 (i + kq = wk.length) ∧ Aside0 ((0 ≤ z ∧ z = q) ∨ (z = -1 ∧ q = spec_DeltaOf.first H kq i)) ∧ Aside0 (Kd.R k94 94 w' W1.heap.size (fun _ => True) (.slice A8 l.length c8) l) ∧ Aside0 (Below W1.heap.size W1 w'))
    case atStart => exact ⟨0, tk, rfl, rfl, ⟨by omega⟩, HQ0, HR, HB⟩
    case round =>
     clear HQ0 HR HB
     obtain ⟨i, z, rfl, rfl, HI2, HZ, HR, HB⟩ := hrel
     have HSG := Aside0.mk ((HB.out.block _ hlt3).trans B30.out)
     obtain ⟨y0, y1, y2, y3⟩ := impl_delta.row4 HSG.out
     by_cases hin : (i : Int) < (wk.length : Int) ∧ z < 0
     ·
      have hib : decide ((i : Int) < (wk.length : Int)) = true := decide_eq_true hin.1
      have hzb : decide (z < 0) = true := decide_eq_true hin.2
      have hwl : wk.length ≤ 2500 := HZ1.out.2.2
      have hiw : IntKind.i64.wrap ((i : Int) + 1) = ((i + 1 : Nat) : Int) := by have := hin.1; rw [impl_delta.w1 (by omega)]; omega
      obtain ⟨k2, rfl⟩ : ∃ k2, gk = k2 + 1 := ⟨gk - 1, by have := HI2.out; omega⟩
      have hf : q = (if H (i : Int) = true then (i : Int) else spec_DeltaOf.first H k2 (i + 1)) := by
       rcases HZ.out with ⟨h1, _⟩ | ⟨_, h1⟩
       ·
        omega
       ·
        exact h1
      have hz1 : z = -1 := by
       rcases HZ.out with ⟨h1, _⟩ | ⟨h1, _⟩ <;> omega
      have hin1 := hin.1
      have hin2 := hin.2
      have hin3 : i < wk.length := by omega
      have HZV := Aside0.mk hz1
      cases hh : H (i : Int) with
      | true =>
       rw [hh, if_pos rfl] at hf
       have HF := Aside0.mk hf
       have M := Aside0.mk (show ∀ (w1 : World), Below W1.heap.size W1 w1 → Calls Tryd.prog 84 #[.agg #[.int .i64 sz, .int .i64 rs, .slice A2 wk.length c2, .slice A3 st.length c3], .int .i64 (i : Int), .int .u32 sa, .string sb, .int .u32 sc, .string sd2] w1 fun e w' => e = .returned (.bool true) ∧ Below w1.heap.size w1 w' from fun w1 hb => by rw [← hh]; exact MH.out w1 i hb)
       clear hf hh hin hz1 HZ
       go_wp2_with (first | (go_at_call 84; refine (M.out _ HB.out).mono ?_; rintro e w7 ⟨rfl, hb7⟩; have n0_ := Aside0.mk (below_step HB.out hb7); have n1_ := Aside0.mk (Kd.R_below HR.out hb7); clear HB HR hb7; have HB := n0_; have HR := n1_; clear n0_ n1_))
       go_roundg k2
       case measure => omega
       case rel => exact ⟨i + 1, _, by first | exact congrArg (Value.int .i64) hiw | simp [hiw], rfl, ⟨by have := HI2.out; omega⟩, ⟨.inl ⟨by omega, HF.out.symm⟩⟩, HR, HB⟩
      | false =>
       rw [hh, if_neg (by simp)] at hf
       have HF := Aside0.mk hf
       have M := Aside0.mk (show ∀ (w1 : World), Below W1.heap.size W1 w1 → Calls Tryd.prog 84 #[.agg #[.int .i64 sz, .int .i64 rs, .slice A2 wk.length c2, .slice A3 st.length c3], .int .i64 (i : Int), .int .u32 sa, .string sb, .int .u32 sc, .string sd2] w1 fun e w' => e = .returned (.bool false) ∧ Below w1.heap.size w1 w' from fun w1 hb => by rw [← hh]; exact MH.out w1 i hb)
       clear hf hh hin hz1 HZ
       go_wp2_with (first | (go_at_call 84; refine (M.out _ HB.out).mono ?_; rintro e w7 ⟨rfl, hb7⟩; have n0_ := Aside0.mk (below_step HB.out hb7); have n1_ := Aside0.mk (Kd.R_below HR.out hb7); clear HB HR hb7; have HB := n0_; have HR := n1_; clear n0_ n1_))
       go_roundg k2
       case measure => omega
       case rel => exact ⟨i + 1, _, by first | exact congrArg (Value.int .i64) hiw | simp [hiw], rfl, ⟨by have := HI2.out; omega⟩, ⟨.inr ⟨HZV.out, HF.out⟩⟩, HR, HB⟩
     ·
      have hzq : z = q := by
       rcases HZ.out with ⟨_, h1⟩ | ⟨h1, h2⟩
       ·
        exact h1
       ·
        have hk0 : gk = 0 := by have := HI2.out; omega
        rw [hk0] at h2
        rw [h1, h2]; rfl
      subst hzq
      clear HZ
      go_upto_region 12 with fail
      go_cut [96] (fun v96 wc => v96 = .bool false ∧ Aside0 (wr = wc))
      case first =>
       by_cases h1 : (i : Int) < (wk.length : Int)
       ·
        have h1b : decide ((i : Int) < (wk.length : Int)) = true := decide_eq_true h1
        have h1c : i < wk.length := by omega
        have h2 : ¬ z < 0 := fun h => hin ⟨h1, h⟩
        have h2b : decide (z < 0) = false := decide_eq_false h2
        go_wp2
        go_meet
        case rel => exact ⟨by first | rfl | simp, ⟨rfl⟩⟩
       ·
        have h1b : decide ((i : Int) < (wk.length : Int)) = false := decide_eq_false h1
        have h1c : ¬ i < wk.length := by omega
        go_wp2
        go_meet
        case rel => exact ⟨by first | rfl | simp, ⟨rfl⟩⟩
      case rest =>
      obtain ⟨rfl, ⟨rfl⟩⟩ := hcut
      by_cases hq : z ≥ 0
      ·
       have hqb : decide (z ≥ 0) = true := decide_eq_true hq
       have hqb2 : decide (0 ≤ z) = true := hqb
       have hzn : decide (z < 0) = false := decide_eq_false (by omega)
       have hzn2 : ¬ z < 0 := by omega
       have e := HE.out
       rw [if_pos hq] at e
       by_cases hle : spec_DeltaOf.long sz rs wk.length z ≤ (s.size : Int)
       case neg => rw [if_neg hle] at e; cases e
       rw [if_pos hle] at e
       obtain ⟨ln, hln⟩ : ∃ y, y = spec_DeltaOf.long sz rs wk.length z := ⟨_, rfl⟩
       rw [← hln] at e hle
       have hln1 : 1 ≤ ln := by
        rw [hln]; unfold spec_DeltaOf.long
        have := HZ1.out
        split <;> omega
       have HRUN2 := Aside0.mk e
       have HLN := Aside0.mk hln
       clear e hln hin HE
       have hle2 := eq_true hle
       have hln0 : 0 ≤ ln := by omega
       have hln02 := eq_true hln0
       obtain ⟨n1, hn1⟩ : ∃ y : Int, y = wrap64 ((wk.length : Int) - 1) := ⟨_, rfl⟩
       have hnw : IntKind.i64.wrap ((wk.length : Int) - 1) = n1 := by rw [hn1]; exact i64_w _
       have hsz2 : (s.extract ln.toNat s.size).size = s.size - ln.toNat := by rw [ByteArray.size_extract]; omega
       have HSZ := Aside0.mk (show (s.extract ln.toNat s.size).size ≤ k1 ∧ (spec_DeltaOf.take l z).length + (s.extract ln.toNat s.size).size ≤ 20000 by
        have h1 : (spec_DeltaOf.take l z).length ≤ l.length + 1 := by
         unfold spec_DeltaOf.take
         split
         ·
          unfold impl_delta.set; rw [List.length_set]; omega
         ·
          simp
        have := HI.out; have := HLEN.out
        omega)
       clear hsz2
       go_upto_region 18 with (first | (go_at_call 85; refine (spec_DeltaOf.takeC z HR.out HB.out.size (by have := HLEN.out; omega)).mono ?_; rintro e w7 ⟨v8, rfl, hR7, hb7⟩))
       have n0_ := Aside0.mk (HB.out.trans hb7)
       have n1_ := Aside0.mk hR7
       clear HB HR hb7 hR7 HSG y0 y1 y2 y3
       have HB := n0_
       have HR := n1_
       clear n0_ n1_
       have HSG := Aside0.mk ((HB.out.block _ hlt3).trans B30.out)
       obtain ⟨y0, y1, y2, y3⟩ := impl_delta.row4 HSG.out
       by_cases hqn : z = n1
       ·
        have hqnb : (z == n1) = true := by rw [hqn]; simp
        by_cases hrs : rs > 0
        ·
         have hrb : decide (rs > 0) = true := decide_eq_true hrs
         have hrb2 : decide (0 < rs) = true := hrb
         obtain rfl : ln = rs := by rw [HLN.out]; unfold spec_DeltaOf.long; rw [← hn1]; exact if_pos ⟨hqn, hrs⟩
         clear hqn HLN hn1
         go_wp2
         go_roundg k1
         case measure => omega
         case rel => exact ⟨_, _, rfl, ⟨HSZ.out.1⟩, HRUN2, ⟨HSZ.out.2⟩, HR, HB⟩
        ·
         have hrb : decide (rs > 0) = false := decide_eq_false hrs
         have hrb2 : decide (0 < rs) = false := hrb
         obtain rfl : ln = sz := by rw [HLN.out]; unfold spec_DeltaOf.long; exact if_neg (fun h => hrs h.2)
         clear hqn HLN hn1
         go_wp2
         go_roundg k1
         case measure => omega
         case rel => exact ⟨_, _, rfl, ⟨HSZ.out.1⟩, HRUN2, ⟨HSZ.out.2⟩, HR, HB⟩
       ·
        have hqnb : (z == n1) = false := by simp [hqn]
        obtain rfl : ln = sz := by rw [HLN.out]; unfold spec_DeltaOf.long; rw [← hn1]; exact if_neg (fun h => hqn h.1)
        clear hqn HLN hn1
        go_wp2
        go_roundg k1
        case measure => omega
        case rel => exact ⟨_, _, rfl, ⟨HSZ.out.1⟩, HRUN2, ⟨HSZ.out.2⟩, HR, HB⟩
      ·
       have hqb : decide (z ≥ 0) = false := decide_eq_false hq
       have hqb2 : decide (0 ≤ z) = false := hqb
       have hzn : decide (z < 0) = true := decide_eq_true (by omega)
       have hzn2 : z < 0 := by omega
       have e := HE.out
       rw [if_neg hq] at e
       have HRUN2 := Aside0.mk e
       clear e hin HE
       have hl1 : (1 : Int) ≤ (s.size : Int) := by omega
       have hl12 := eq_true hl1
       have hl13 : 1 ≤ s.size := by omega
       obtain ⟨gb2, hgb⟩ : ∃ b : Bool, b = decide (l ≠ [] ∧ (impl_delta.last l).f0 = 0 ∧ (impl_delta.last l).f1.size < 100) := ⟨_, rfl⟩
       have HGB := Aside0.mk hgb
       have hsz2 : (s.extract 1 s.size).size = s.size - 1 := by rw [ByteArray.size_extract]; omega
       have HSZ := Aside0.mk (show (s.extract 1 s.size).size ≤ k1 ∧ (spec_DeltaOf.lit l s).length + (s.extract 1 s.size).size ≤ 20000 by
        have h1 : (spec_DeltaOf.lit l s).length ≤ l.length + 1 := by
         unfold spec_DeltaOf.lit
         split
         ·
          unfold impl_delta.set; rw [List.length_set]; omega
         ·
          simp
        have := HI.out; have := HLEN.out
        omega)
       clear hgb hsz2
       go_upto_region 22 with fail
       go_cut [148] (fun v148 wc => v148 = .bool gb2 ∧ Aside0 (wr = wc))
       case first =>
        by_cases hl : l = []
        ·
         obtain rfl : gb2 = false := by rw [HGB.out]; exact decide_eq_false (fun h => h.1 hl)
         have h1 : decide (L5 ≥ 0) = false := decide_eq_false (by rw [HL5.out, hl]; simp)
         have h2 : decide (0 ≤ L5) = false := h1
         clear hl HGB
         go_wp2
         go_meet
         case rel => exact ⟨by first | rfl | simp, ⟨rfl⟩⟩
        ·
         have hp := List.length_pos_iff.2 hl
         obtain ⟨m, hm⟩ : ∃ m, l.length = m + 1 := ⟨l.length - 1, by omega⟩
         obtain ⟨go, cap, e, hb, _⟩ := Kd.R_form HR.out hp
         obtain ⟨rfl, rfl⟩ : A8 = some ⟨go, 0, none⟩ ∧ c8 = cap := by injection e with a _ b; exact ⟨a, b⟩
         obtain ⟨c0, c1, c2', c3', f1, f3, SC, ST⟩ := impl_delta.lastR HR.out hm
         obtain rfl : L5 = (m : Int) := by rw [HL5.out]; omega
         have h1 : decide ((m : Int) ≥ 0) = true := decide_eq_true (by omega)
         have h2 : decide (0 ≤ (m : Int)) = true := decide_eq_true (by omega)
         have hm0 : (0 : Int) ≤ (m : Int) := by omega
         have hm1 : (m : Int) < (l.length : Int) := by omega
         obtain ⟨x, hx⟩ : ∃ x, x = impl_delta.last l := ⟨_, rfl⟩
         rw [← hx] at c0 c1 HGB
         clear SC ST hp e hm f1 f3 c2' c3' hx hlw HL5
         by_cases hk : x.f0 = 0
         ·
          rw [hk] at c0
          by_cases hs : x.f1.size < 100
          ·
           obtain rfl : gb2 = true := by rw [HGB.out]; exact decide_eq_true ⟨hl, hk, hs⟩
           have hs1 : decide ((x.f1.size : Int) < 100) = true := decide_eq_true (by omega)
           clear hl HGB hk
           go_wp2
           go_meet
           case rel => exact ⟨by first | rfl | simp, ⟨rfl⟩⟩
          ·
           obtain rfl : gb2 = false := by rw [HGB.out]; exact decide_eq_false (fun h => hs h.2.2)
           have hs1 : decide ((x.f1.size : Int) < 100) = false := decide_eq_false (by omega)
           clear hl HGB hk
           go_wp2
           go_meet
           case rel => exact ⟨by first | rfl | simp, ⟨rfl⟩⟩
         ·
          have hkb : (x.f0 == 0) = false := by simp [hk]
          obtain rfl : gb2 = false := by rw [HGB.out]; exact decide_eq_false (fun h => hk h.2.1)
          clear hl HGB hk
          go_wp2
          go_meet
          case rel => exact ⟨by first | rfl | simp, ⟨rfl⟩⟩
       case rest =>
       obtain ⟨rfl, ⟨rfl⟩⟩ := hcut
       cases gb2 with
       | false =>
        obtain ⟨T, hT⟩ : ∃ T, T = spec_DeltaOf.lit l s := ⟨_, rfl⟩
        rw [← hT] at HRUN2 HSZ
        obtain rfl : T = l ++ [⟨0, s.extract 0 1, 0, 0⟩] := hT.trans (show spec_DeltaOf.lit l s = l ++ [⟨0, s.extract 0 1, 0, 0⟩] from if_neg (of_decide_eq_false HGB.out.symm))
        clear hT HGB
        go_wp2_with (first | ((with_reducible refine gate_builtin (b := .append) (xs := #[.tmp 161, .tmp 165]) rfl ?_); at_builtin; refine Kd.R_append k94 (w0 := W1) W1.heap.size rfl (.tmp 161) (.tmp 165) 54 94 (.agg #[(.int .i64 0), (.string ⟨#[]⟩), (.int .i64 0), (.int .i64 0)]) 40 rfl Tryd.underlying54 impl_delta.i94 rfl (by decide) (by omega) _ l (⟨0, s.extract 0 1, 0, 0⟩ : S94) [.int .i64 0, .string (s.extract 0 1), .int .i64 0, .int .i64 0] (fun _ => True) (fun _ => False) rfl rfl ?aP (fun _ hk => hk.elim) (fun _ _ => trivial) ?aO ?aB ?aS ?aL ?_; (case aP => exact k94_mkM _ _ _ (⟨0, s.extract 0 1, 0, 0⟩ : S94)); (case aB => exact HB.out); (case aO => exact HR.out); (case aS => exact HB.out.size); (case aL => have := HLEN.out; omega); intro v6 w6 ho6 hb6 hg6 hat6; clear hg6 hat6; have n0_ := Aside0.mk hb6; have n1_ := Aside0.mk ho6; clear HB HR hb6 ho6; have HB := n0_; have HR := n1_; clear n0_ n1_))
        go_roundg k1
        case measure => omega
        case rel => exact ⟨s.extract 1 s.size, _, rfl, ⟨HSZ.out.1⟩, HRUN2, ⟨HSZ.out.2⟩, HR, HB⟩
       | true =>
        have h3 := of_decide_eq_true HGB.out.symm
        obtain ⟨T, hT⟩ : ∃ T, T = spec_DeltaOf.lit l s := ⟨_, rfl⟩
        rw [← hT] at HRUN2 HSZ
        obtain ⟨x, hx⟩ : ∃ x, x = impl_delta.last l := ⟨_, rfl⟩
        obtain rfl : T = impl_delta.set l ⟨x.f0, x.f1 ++ s.extract 0 1, x.f2, x.f3⟩ := hT.trans (show spec_DeltaOf.lit l s = impl_delta.set l ⟨x.f0, x.f1 ++ s.extract 0 1, x.f2, x.f3⟩ by rw [hx]; exact if_pos h3)
        have hp := List.length_pos_iff.2 h3.1
        obtain ⟨m, hm⟩ : ∃ m, l.length = m + 1 := ⟨l.length - 1, by omega⟩
        obtain ⟨go, cap, e2, hgo, _⟩ := Kd.R_form HR.out hp
        obtain ⟨rfl, rfl⟩ : A8 = some ⟨go, 0, none⟩ ∧ c8 = cap := by injection e2 with a _ b; exact ⟨a, b⟩
        obtain ⟨c0, c1, c2', c3', f1, f3, SC, ST⟩ := impl_delta.lastR HR.out hm
        obtain rfl : L5 = (m : Int) := by rw [HL5.out]; omega
        have hm0 : (0 : Int) ≤ (m : Int) := by omega
        have hm1 : (m : Int) < (l.length : Int) := by omega
        have hs100 := h3.2.2
        rw [← hx] at c1 hs100
        have HX := Aside0.mk hx
        have HM := Aside0.mk hm
        have hcat : (9223372036854775807 < x.f1.size + (s.extract 0 1).size) = False := eq_false (by rw [ByteArray.size_extract]; omega)
        have hcat2 : (9223372036854775807 < x.f1.size + 1) = False := eq_false (by omega)
        have hcat3 : (9223372036854775807 < x.f1.size + min 1 s.size) = False := eq_false (by omega)
        have HL2 := Aside0.mk (show (impl_delta.set l ⟨x.f0, x.f1 ++ s.extract 0 1, x.f2, x.f3⟩).length = l.length by unfold impl_delta.set; rw [List.length_set])
        clear SC ST e2 h3 HGB hp hm hT hx hlw HL5 c0 c2' c3' f3 hs100
        go_upto_region 23 with fail
        refine start_ (n := 13) (S := fun w' => w'.cell? ⟨go, m * 4 + 1, none⟩ = some (.string x.f1) ∧ w'.frozen? ⟨go, m * 4 + 1, none⟩ = false) (ds := [12]) (bm 13 0) (by kernel_rfl) rfl rfl ⟨c1, f1⟩ (fun hHeld => ?_); refine with_tabW spec_DeltaOf.tab40_23 spec_DeltaOf.bits40_23 (fun HT_ HW_ => ?_)
        have HBr := Aside0.mk (below_drew (Below.refl wr.heap.size wr))
        generalize wr.drew = wd at HBr hHeld ⊢
        refine pure_ (i := 0) (N := some 149) (v := ?_) (a' := ?_) (bm 13 1) rfl rfl (any_of HT_.out (by kernel_rfl)) (fun _ _ _ h => h) (Or.inl ⟨by rfl, ?_⟩) ?_ ?_; rotate_left; · (intro w'; go_simp; with_reducible rfl)
        rotate_left; · (simp only [Act.put, q1, q2, q3, q4, q5, q6, q7]; rfl)
        refine pure_ (i := 1) (N := some 150) (v := ?_) (a' := ?_) (bm 13 3) rfl rfl (any_of HT_.out (by kernel_rfl)) (fun _ _ _ h => h) (Or.inl ⟨by rfl, ?_⟩) ?_ ?_; rotate_left; · (intro w'; go_simp; with_reducible rfl)
        rotate_left; · (simp only [Act.put, q1, q2, q3, q4, q5, q6, q7]; rfl)
        refine pure_ (i := 2) (N := some 151) (v := ?_) (a' := ?_) (bm 13 7) rfl rfl (any_of HT_.out (by kernel_rfl)) (fun _ _ _ h => h) (Or.inl ⟨by rfl, ?_⟩) ?_ ?_; rotate_left; · (intro w'; go_simp; with_reducible rfl)
        rotate_left; · (simp only [Act.put, q1, q2, q3, q4, q5, q6, q7]; rfl)
        refine pure_ (i := 3) (N := some 152) (v := ?_) (a' := ?_) (bm 13 15) rfl rfl (any_of HT_.out (by kernel_rfl)) (fun _ _ _ h => h) (Or.inl ⟨by rfl, ?_⟩) ?_ ?_; rotate_left; · (intro w'; go_simp; with_reducible rfl)
        rotate_left; · (simp only [Act.put, q1, q2, q3, q4, q5, q6, q7]; rfl)
        refine pure_ (i := 4) (N := some 153) (v := ?_) (a' := ?_) (bm 13 31) rfl rfl (any_of HT_.out (by kernel_rfl)) (fun _ _ _ h => h) (Or.inl ⟨by rfl, ?_⟩) ?_ ?_; rotate_left; · (intro w'; go_simp; with_reducible rfl)
        rotate_left; · (simp only [Act.put, q1, q2, q3, q4, q5, q6, q7]; rfl)
        refine pure_ (i := 5) (N := some 154) (v := ?_) (a' := ?_) (bm 13 63) rfl rfl (any_of HT_.out (by kernel_rfl)) (fun _ _ _ h => h) (Or.inl ⟨by rfl, ?_⟩) ?_ ?_; rotate_left; · (intro w'; go_simp; with_reducible rfl)
        rotate_left; · (simp only [Act.put, q1, q2, q3, q4, q5, q6, q7]; rfl)
        refine pure_ (i := 7) (N := some 156) (v := ?_) (a' := ?_) (bm 13 191) rfl rfl (any_of HT_.out (by kernel_rfl)) (fun _ _ _ h => h) (Or.inl ⟨by rfl, ?_⟩) ?_ ?_; rotate_left; · (intro w'; go_simp; with_reducible rfl)
        rotate_left; · (simp only [Act.put, q1, q2, q3, q4, q5, q6, q7]; rfl)
        refine pure_ (i := 8) (N := some 157) (v := ?_) (a' := ?_) (bm 13 447) rfl rfl (any_of HT_.out (by kernel_rfl)) (fun _ _ _ h => h) (Or.inl ⟨by rfl, ?_⟩) ?_ ?_; rotate_left; · (intro w'; go_simp; with_reducible rfl)
        rotate_left; · (simp only [Act.put, q1, q2, q3, q4, q5, q6, q7]; rfl)
        refine take_ (i := 6) (N := some 155) (v := ?_) (a' := ?_) (bm 13 511) rfl rfl (take_ofW HT_.out HW_.out (by kernel_rfl)) (fun _ _ _ h => h) (Or.inl ⟨by rfl, ?_⟩) hHeld ?_ ?_; rotate_left; · (rintro w' ⟨s0, s1⟩; go_simp; with_reducible rfl)
        rotate_left; · (simp only [Act.put, q1, q2, q3, q4, q5, q6, q7]; rfl)
        refine pure_ (i := 9) (N := some 158) (v := ?_) (a' := ?_) (bm 13 1023) rfl rfl (any_of HT_.out (by kernel_rfl)) (fun _ _ _ h => h) (Or.inl ⟨by rfl, ?_⟩) ?_ ?_; rotate_left; · (intro w'; go_simp; with_reducible rfl)
        rotate_left; · (simp only [Act.put, q1, q2, q3, q4, q5, q6, q7]; rfl)
        refine pure_ (i := 10) (N := some 159) (v := ?_) (a' := ?_) (bm 13 2047) rfl rfl (any_of HT_.out (by kernel_rfl)) (fun _ _ _ h => h) (Or.inl ⟨by rfl, ?_⟩) ?_ ?_; rotate_left; · (intro w'; go_simp; with_reducible rfl)
        rotate_left; · (simp only [Act.put, q1, q2, q3, q4, q5, q6, q7]; rfl)
        refine pure_ (i := 11) (N := some 160) (v := ?_) (a' := ?_) (bm 13 4095) rfl rfl (any_of HT_.out (by kernel_rfl)) (fun _ _ _ h => h) (Or.inl ⟨by rfl, ?_⟩) ?_ ?_; rotate_left; · (intro w'; go_simp; with_reducible rfl)
        rotate_left; · (simp only [Act.put, q1, q2, q3, q4, q5, q6, q7]; rfl)
        refine last_ (i := 12) (N := none) (bm 13 8191) rfl rfl (one_of HT_.out (by kernel_rfl)) (by decide) (fun K hK => ?_)
        have cd1 : wd.cell? ⟨go, m * 4 + 1, none⟩ = some (.string x.f1) := hHeld.1
        have fd1 : wd.frozen? ⟨go, m * 4 + 1, none⟩ = false := hHeld.2
        refine impl_delta.skip_step (by rfl) rfl (w1 := wd.setCell ⟨go, m * 4 + 1, none⟩ (.string (x.f1 ++ s.extract 0 1))) (by first | (go_simp; done) | (go_simp; rfl)) ?_
        refine hK.out _ _ ?_
        clear hK K
        refine norm_ (a' := ?_) ?_ ?_
        rotate_left
        · (show Act.put _ (none) _ = _; simp only [Act.put, q1, q2, q3, q4, q5, q6, q7]; rfl)
        refine done_ (done_of HT_.out (by kernel_rfl)) ?_
        obtain ⟨_, _, _, _, _, _, _, ST⟩ := impl_delta.lastR (Kd.R_below HR.out HBr.out) HM.out
        rw [← HX.out] at ST
        have n0_ := Aside0.mk (ST (x.f1 ++ s.extract 0 1))
        rw [HL2.out] at n0_
        have n1_ := Aside0.mk (below_set (j := m * 4 + 1) (v := .string (x.f1 ++ s.extract 0 1)) (below_step HB.out HBr.out) hgo)
        clear hHeld HB HR c1 f1 cd1 fd1 ST HBr
        generalize World.setCell _ _ _ = wz at n0_ n1_ ⊢
        have HR := n0_
        have HB := n1_
        clear n0_ n1_
        go_wp2
        go_roundg k1
        case measure => omega
        case rel => exact ⟨s.extract 1 s.size, _, rfl, ⟨HSZ.out.1⟩, HRUN2, ⟨HSZ.out.2⟩, HR, HB⟩
   ·
    have hltb : decide ((s.size : Int) > 0) = false := decide_eq_false hlt
    have hltb2 : decide (0 < (s.size : Int)) = false := hltb
    have e : l = r := by
     have e := HRUN.out
     cases gk with
     | zero => exact Option.some.inj e
     | succ k1 => simp only [spec_DeltaOf.run] at e; rw [if_neg hlt] at e; exact Option.some.inj e
    subst e
    clear HRUN
    go_wp2
    go_ret
    exact ⟨_, rfl, Kd.R_lower HR.out hsz1, below_step HB0.out HB.out⟩

end Go.Proofs.YtbkodnhnadkhdaaDoor.PTr
