/- The walks of both Transfer and of the law on it, all answers known. No condition. -/
import Derived.Test.YtbkodnhnadkhdaaDoorPTrx0
import Derived.Test.YtbkodnhnadkhdaaDoorPTrx5
import Derived.Test.YtbkodnhnadkhdaaDoorPTrx6
import Derived.Test.YtbkodnhnadkhdaaDoorPTrx9
import Derived.Test.YtbkodnhnadkhdaaDoorPTrx11
import Derived.Test.YtbkodnhnadkhdaaDoorPTrx12
import Derived.Test.YtbkodnhnadkhdaaDoorStrW
import Derived.LoopTactic
import Derived.BigQuiet
import Derived.ChangeKeysEq
namespace Go.Proofs.YtbkodnhnadkhdaaDoor.PTr
open Go Go.RowKit Go.Proofs.YtbkodnhnadkhdaaDoorW.PrintWords Go.Proofs.YtbkodnhnadkhdaaDoorW.PrintLast Go.Proofs.YtbkodnhnadkhdaaDoorW.PrintMore
set_option linter.unusedVariables false
set_option linter.unusedSimpArgs false
attribute [local go_sem] max2_int min2_int max_two min_two max_three min_three max_four min_four
theorem tr.sum_wf (s : ByteArray) : ∀ x ∈ YtbkodnhnadkhdaaDoor.Str.sumOf s, (Lit.int .u8 x).wf = true := fun x hx => by
 have : 0 ≤ x ∧ x ≤ 255 := by
  unfold YtbkodnhnadkhdaaDoor.Str.sumOf at hx
  split at hx
  ·
   exact YtbkodnhnadkhdaaDoor.Str.md5_bytes s x hx
  ·
   have := List.eq_of_mem_replicate hx; omega
 simp [Lit.wf, IntKind.min, IntKind.max, IntKind.signed, IntKind.bits]
 omega
/-- Two arrays of 16 bytes are one just if their bytes are. -/
theorem tr.eq16 (X Y : List Int) (hx : X.length = 16) (hy : Y.length = 16) (bx : ∀ x ∈ X, (Lit.int .u8 x).wf = true) (hby : ∀ x ∈ Y, (Lit.int .u8 x).wf = true) : ∃ z : Bool, (∀ w : World, (Op.equalIn 10000 28 (.agg (YtbkodnhnadkhdaaDoor.Mix.arr .u8 X)) (.agg (YtbkodnhnadkhdaaDoor.Mix.arr .u8 Y))).run Tryd.prog w = .ok z w) ∧ (z = true ↔ X = Y) := by
 have c5 : Tryd.prog.cellsOf 5 = 1 := by kernel_rfl
 have k5 : ∀ x : Int, (Lit.int .u8 x).wf = true → Tryd.prog.keyLits 2 5 [Value.int .u8 x] = some [Lit.int .u8 x] := fun x h => by
  simp only [Program.keyLits, Tryd.underlying5]
  simp [h]
 have key : ∀ Z : List Int, Z.length = 16 → (∀ x ∈ Z, (Lit.int .u8 x).wf = true) → (List.range 16).mapM (fun i => Tryd.prog.keyLits 2 5 (((YtbkodnhnadkhdaaDoor.Mix.arr .u8 Z).toList.drop (i * Tryd.prog.cellsOf 5)).take (Tryd.prog.cellsOf 5))) = some (Z.map fun x => [Lit.int .u8 x]) := fun Z hZ hb => by
  rw [c5]
  match Z, hZ, hb with
  | [a0, a1, a2, a3, a4, a5, a6, a7, a8, a9, a10, a11, a12, a13, a14, a15], _, hb =>
   simp [show List.range 16 = [0, 1, 2, 3, 4, 5, 6, 7, 8, 9, 10, 11, 12, 13, 14, 15] from rfl, YtbkodnhnadkhdaaDoor.Mix.arr, List.mapM_cons, k5 _ (hb a0 (by simp)), k5 _ (hb a1 (by simp)), k5 _ (hb a2 (by simp)), k5 _ (hb a3 (by simp)), k5 _ (hb a4 (by simp)), k5 _ (hb a5 (by simp)), k5 _ (hb a6 (by simp)), k5 _ (hb a7 (by simp)), k5 _ (hb a8 (by simp)), k5 _ (hb a9 (by simp)), k5 _ (hb a10 (by simp)), k5 _ (hb a11 (by simp)), k5 _ (hb a12 (by simp)), k5 _ (hb a13 (by simp)), k5 _ (hb a14 (by simp)), k5 _ (hb a15 (by simp))]
 obtain ⟨i0, hi, _⟩ := Option.map_eq_some_iff.1 (show (Tryd.prog.info? 5).map (fun i => (i.zero, i.size, i.bytes)) = some (some (.int .u8 0), 1, 1) by kernel_rfl)
 refine ⟨decide (X = Y), fun w => ?_, decide_eq_true_iff⟩
 have h0 := run_equalIn_array (P := Tryd.prog) (w := w) 9999 (e := 5) (n := 16) (i := i0) (YtbkodnhnadkhdaaDoor.Mix.arr .u8 X) (YtbkodnhnadkhdaaDoor.Mix.arr .u8 Y) Tryd.underlying28 hi
 obtain ⟨r, hr, hiff⟩ := run_eqItems_plain (P := Tryd.prog) (w := w) 9998 (e := 5) (by kernel_rfl) (YtbkodnhnadkhdaaDoor.Mix.arr .u8 X) (YtbkodnhnadkhdaaDoor.Mix.arr .u8 Y) (D := 2) (D' := 2) (List.range 16) _ _ (key X hx bx) (key Y hy hby)
 rw [c5] at h0 hr
 refine (h0.trans hr).trans (congrArg (fun b => Result.ok b w) (?_ : r = decide (X = Y)))
 have hf : ∀ Z : List Int, (Z.map fun x => [Lit.int .u8 x]).flatten = Z.map (Lit.int .u8) := fun Z => by
  induction Z with
  | nil => rfl
  | cons x Z ih => simp only [List.map_cons, List.flatten_cons, ih]; rfl
 rw [hf, hf] at hiff
 have hinj : X.map (Lit.int .u8) = Y.map (Lit.int .u8) ↔ X = Y := ⟨fun h => (List.map_inj_right (fun a b hab => by injection hab)).1 h, fun h => by rw [h]⟩
 rw [hinj] at hiff
 cases r with
 | true => exact (decide_eq_true (hiff.1 rfl)).symm
 | false => exact (decide_eq_false (fun h => by have := hiff.2 h; cases this)).symm
set_option maxHeartbeats 8000000 in
set_option maxRecDepth 100000 in
theorem tr.spec (k : Nat) (old data : ByteArray) (sd size a b : Int) (wk : List Int) (st : List ByteArray) (g : Bool) (L O : List S94) (out : ByteArray) (ok same : Bool) (w : World) (ho : ¬ (old.size : Int) > 20000) (hd : ¬ (data.size : Int) > 20000)
 (hB : spec_BlockSize.f k old.size = some size) (hG : spec_SigOf.f k old size sd = some (a, b, wk, st, g)) (hD : spec_DeltaOf.f k a b wk st sd data = some L) (hP : spec_Patch.f k old size L = some (out, ok)) (hO : spec_OnlyLiterals.f k data = some O)
 (hs : same = (ok && decide (YtbkodnhnadkhdaaDoor.Str.sumOf out = YtbkodnhnadkhdaaDoor.Str.sumOf data))) :
 Calls Tryd.prog 45 #[.string old, .string data, .int .u32 sd] w fun e w' => ∃ v : Value, e = .returned (.tuple #[.string (if same = true then out else data), v, .bool (!same)]) ∧ Kd.R k94 94 w' w.heap.size (fun _ => True) v (if same = true then L else O) ∧ Below w.heap.size w w' := by
 have hob : decide ((old.size : Int) > 20000) = false := decide_eq_false ho
 have hob2 : decide (20000 < (old.size : Int)) = false := hob
 have hdb : decide ((data.size : Int) > 20000) = false := decide_eq_false hd
 have hdb2 : decide (20000 < (data.size : Int)) = false := hdb
 have HBs := Aside0.mk hB
 have HG := Aside0.mk hG
 have HD := Aside0.mk hD
 have HP := Aside0.mk hP
 have HO := Aside0.mk hO
 have HS := Aside0.mk hs
 clear hB hG hD hP hO hs
 go_enter Tryd.func45, Tryd.ntmps45
 go_upto_region 5 with (first
  | (go_at_call 89; refine (spec_BlockSize.calls k old.size size _ HBs.out).mono ?_; rintro e w1 ⟨rfl, hb⟩; have HB := Aside0.mk (Drawn0.below hb); clear hb)
  | (go_at_call 23; refine (spec_SigOf.calls k old size sd a b wk st g _ HG.out).mono ?_; rintro e w2 ⟨v2, v3, rfl, hr2, hr3, hb⟩; have n0_ := Aside0.mk (below_step HB.out hb); clear HB hb; have HB := n0_; clear n0_; obtain ⟨A2, c2, rfl, q2, C2⟩ := Kd.R_reads hr2; obtain ⟨A3, c3, rfl, q3, C3⟩ := Kd.R_reads hr3))
 have BX := blk_new w2 (.cells #[.int .i64 a, .int .i64 b, .slice A2 wk.length c2, .slice A3 st.length c3] 39 (0, 0))
 have n0_ := Aside0.mk (below_alloc HB.out (.cells #[.int .i64 a, .int .i64 b, .slice A2 wk.length c2, .slice A3 st.length c3] 39 (0, 0)))
 have D2 := Kd.C_alloc C2 (.cells #[.int .i64 a, .int .i64 b, .slice A2 wk.length c2, .slice A3 st.length c3] 39 (0, 0))
 have D3 := Kd.C_alloc C3 (.cells #[.int .i64 a, .int .i64 b, .slice A2 wk.length c2, .slice A3 st.length c3] 39 (0, 0))
 clear HB C2 C3 hr2 hr3
 generalize w2.alloc _ = W2 at BX n0_ D2 D3 ⊢
 generalize w2.heap.size = g9 at BX ⊢
 have HB := n0_
 clear n0_
 obtain ⟨z0, z1, z2, z3⟩ := impl_delta.row4 BX
 go_upto_region 7 with (first
  | (go_at_call 40; refine (spec_DeltaOf.calls k a b A2 c2 wk A3 c3 st sd data L _ D2 q2 D3 q3 HD.out).mono ?_; rintro e w3 ⟨vL, rfl, hRL, hb⟩; have RL := Aside0.mk (Kd.R_lower hRL HB.out.size); have n0_ := Aside0.mk (below_step HB.out hb); clear HB hb hRL; have HB := n0_; clear n0_; obtain ⟨AL, cL, rfl, qL, CL⟩ := Kd.R_reads RL.out)
  | (go_at_call 90; refine (spec_Patch.calls k old size AL cL L out ok _ CL qL HP.out).mono ?_; rintro e w4 ⟨rfl, hb⟩; have n0_ := Aside0.mk (below_step HB.out hb); have n1_ := Aside0.mk (Kd.R_below RL.out hb); clear HB RL hb; have HB := n0_; have RL := n1_; clear n0_ n1_))
 clear z0 z1 z2 z3 BX D2 D3 CL
 have hl : ∀ x, (YtbkodnhnadkhdaaDoor.Str.sumOf x).length = 16 := fun x => by unfold YtbkodnhnadkhdaaDoor.Str.sumOf; split; (· exact YtbkodnhnadkhdaaDoor.Str.md5_length x); (· simp)
 have ST : ∀ (x : ByteArray) (w' : World), Calls Tryd.prog 16 #[.string x] w' fun e w2 => e = .returned (.agg (YtbkodnhnadkhdaaDoor.Mix.arr .u8 (YtbkodnhnadkhdaaDoor.Str.sumOf x))) ∧ Below w'.heap.size w' w2 := fun x w' => by
  rw [← YtbkodnhnadkhdaaDoor.Str.b16_arr _ (hl x)]
  exact YtbkodnhnadkhdaaDoor.Str.strongOfS x w'
 obtain ⟨z, hz, hzi⟩ := tr.eq16 (YtbkodnhnadkhdaaDoor.Str.sumOf out) (YtbkodnhnadkhdaaDoor.Str.sumOf data) (hl _) (hl _) (tr.sum_wf _) (tr.sum_wf _)
 obtain ⟨X, hX⟩ : ∃ X, X = YtbkodnhnadkhdaaDoor.Mix.arr .u8 (YtbkodnhnadkhdaaDoor.Str.sumOf out) := ⟨_, rfl⟩
 obtain ⟨Y, hY⟩ : ∃ Y, Y = YtbkodnhnadkhdaaDoor.Mix.arr .u8 (YtbkodnhnadkhdaaDoor.Str.sumOf data) := ⟨_, rfl⟩
 have M1 := Aside0.mk (ST out)
 have M2 := Aside0.mk (ST data)
 rw [← hX] at M1 hz
 rw [← hY] at M2 hz
 have hzs : z = decide (YtbkodnhnadkhdaaDoor.Str.sumOf out = YtbkodnhnadkhdaaDoor.Str.sumOf data) := by
  cases z with
  | true => exact (decide_eq_true (hzi.1 rfl)).symm
  | false => exact (decide_eq_false (fun h => by have := hzi.2 h; cases this)).symm
 rw [← hzs] at HS
 clear ST hl hzi hX hY hzs
 go_cut [52] (fun v52 wc => v52 = .bool same ∧ Aside0 (Kd.R k94 94 wc w.heap.size (fun _ => True) (.slice AL L.length cL) L) ∧ Aside0 (Below w.heap.size w wc))
 case first =>
  cases ok with
  | false =>
   obtain rfl : same = false := by rw [HS.out]; rfl
   go_wp2
   go_meet
   case rel => exact ⟨by first | rfl | simp, RL, HB⟩
  | true =>
   obtain rfl : same = z := by rw [HS.out]; rfl
   go_wp2_with (first
    | (go_at_call_of 16 (Value.string out); refine (M1.out _).mono ?_; rintro e w5 ⟨rfl, hb5⟩; have n0_ := Aside0.mk (below_step HB.out hb5); have n1_ := Aside0.mk (Kd.R_below RL.out hb5); clear HB RL; have HB := n0_; have RL := n1_; clear n0_ n1_)
    | (go_at_call_of 16 (Value.string data); refine (M2.out _).mono ?_; rintro e w6 ⟨rfl, hb6⟩; have n0_ := Aside0.mk (below_step HB.out hb6); have n1_ := Aside0.mk (Kd.R_below RL.out hb6); clear HB RL; have HB := n0_; have RL := n1_; clear n0_ n1_))
   go_meet
   case rel => exact ⟨by first | rfl | simp, RL, HB⟩
 case rest =>
 clear HB RL
 obtain ⟨rfl, RL, HB⟩ := hcut
 cases same with
 | true =>
  go_wp2
  go_ret3
  exact ⟨_, rfl, RL.out, HB.out⟩
 | false =>
  go_wp2_with (first | (go_at_call 91; refine (spec_OnlyLiterals.calls k data O _ HO.out).mono ?_; rintro e w7 ⟨vO, rfl, hRO, hb7⟩))
  go_ret3
  exact ⟨_, rfl, Kd.R_lower hRO HB.out.size, below_step HB.out hb7⟩
set_option maxHeartbeats 8000000 in
set_option maxRecDepth 100000 in
theorem tr.spec_big (old data : ByteArray) (sd : Int) (w : World) (h : (old.size : Int) > 20000 ∨ (data.size : Int) > 20000) :
 Calls Tryd.prog 45 #[.string old, .string data, .int .u32 sd] w fun e w' => ∃ v : Value, e = .returned (.tuple #[.string (⟨#[]⟩ : ByteArray), v, .bool false]) ∧ Kd.R k94 94 w' w.heap.size (fun _ => True) v [] ∧ Below w.heap.size w w' := by
 by_cases ho : (old.size : Int) > 20000
 ·
  have hob : decide ((old.size : Int) > 20000) = true := decide_eq_true ho
  have hob2 : decide (20000 < (old.size : Int)) = true := hob
  go_enter Tryd.func45, Tryd.ntmps45
  go_wp2_with (first | ((with_reducible refine gate_dst (N := 23) rfl ?_); refine Kd.R_lit k94 _ 94 ?hg (N := 23) ?hd (xs := ([] : List (S94))) (inner := []) (ok := fun _ => True) (okp := fun _ => True) ?hr ?hp (fun _ hk => hk) trivial (Below.refl _ _) (Nat.le_refl _) (by simp) ?_; (case hd => rfl); (case hg => rfl); (case hr => first | (go_simp; done) | (go_simp; rfl)); (case hp => exact (Reps.none _ _)); intro v7 w2 hR hB _ _))
  go_ret3
  exact ⟨_, rfl, hR, hB⟩
 ·
  have hd : (data.size : Int) > 20000 := h.resolve_left ho
  have hob : decide ((old.size : Int) > 20000) = false := decide_eq_false ho
  have hob2 : decide (20000 < (old.size : Int)) = false := hob
  have hdb : decide ((data.size : Int) > 20000) = true := decide_eq_true hd
  have hdb2 : decide (20000 < (data.size : Int)) = true := hdb
  go_enter Tryd.func45, Tryd.ntmps45
  go_wp2_with (first | ((with_reducible refine gate_dst (N := 23) rfl ?_); refine Kd.R_lit k94 _ 94 ?hg (N := 23) ?hd (xs := ([] : List (S94))) (inner := []) (ok := fun _ => True) (okp := fun _ => True) ?hr ?hp (fun _ hk => hk) trivial (Below.refl _ _) (Nat.le_refl _) (by simp) ?_; (case hd => rfl); (case hg => rfl); (case hr => first | (go_simp; done) | (go_simp; rfl)); (case hp => exact (Reps.none _ _)); intro v7 w2 hR hB _ _))
  go_ret3
  exact ⟨_, rfl, hR, hB⟩
set_option maxHeartbeats 16000000 in
set_option maxRecDepth 100000 in
theorem tr.law (k : Nat) (old data : ByteArray) (sd : Int) (X : ByteArray) (g : Bool) (R R' : List S94) (M : Int) (w : World) (ho : ¬ (old.size : Int) > 1048576) (hd : ¬ (data.size : Int) > 1048576) (hM : ¬ M < 0)
 (MS : ∀ w', Below w.heap.size w w' → Calls Tryd.prog 45 #[.string old, .string data, .int .u32 sd] w' fun e w2 => ∃ v : Value, e = .returned (.tuple #[.string X, v, .bool g]) ∧ Kd.R k94 94 w2 w'.heap.size (fun _ => True) v R ∧ Below w'.heap.size w' w2)
 (MI : ∀ w', Below w.heap.size w w' → Calls Tryd.prog 34 #[.string old, .string data, .int .u32 sd] w' fun e w2 => ∃ v : Value, e = .returned (.tuple #[.string X, v, .bool g]) ∧ Kd.R k94 94 w2 w'.heap.size (fun _ => True) v R ∧ Below w'.heap.size w' w2)
 (hE : laws_eqTokenS.f k R R = some true) (hMk : laws_markTokenS.f k R 1 = some (M, R')) (hH : laws_heldTokenS.f k R' 1 = some M) :
 Calls Tryd.prog 11 #[.string old, .string data, .int .u32 sd] w fun e w' => e = .returned (.bool true) ∧ Below w.heap.size w w' := by
 have hob : decide ((old.size : Int) > 1048576) = false := decide_eq_false ho
 have hob2 : decide (1048576 < (old.size : Int)) = false := hob
 have hdb : decide ((data.size : Int) > 1048576) = false := decide_eq_false hd
 have hdb2 : decide (1048576 < (data.size : Int)) = false := hdb
 have hMb : decide (M < 0) = false := decide_eq_false hM
 have HS := Aside0.mk MS
 have HI := Aside0.mk MI
 have HE := Aside0.mk hE
 have HMK := Aside0.mk hMk
 have HH := Aside0.mk hH
 clear MS MI hE hMk hH
 go_enter Tryd.func11, Tryd.ntmps11
 go_upto_region 7 with (first
  | (go_at_call 45; refine (HS.out _ (Below.refl _ _)).mono ?_; rintro e w1 ⟨vS, rfl, hRS, hb⟩; have HB := Aside0.mk hb; have RS0 := Aside0.mk hRS; clear hb hRS)
  | (go_at_call 34; refine (HI.out _ HB.out).mono ?_; rintro e w2 ⟨vI, rfl, hRI, hb⟩))
 have ne_ := Kd.R_elder' RS0.out (Kd.R_base hRI) hb
 have RI := Aside0.mk (Kd.R_tight rfl (Kd.R_lower hRI HB.out.size))
 have n0_ := Aside0.mk (below_step HB.out hb)
 obtain ⟨AS, cS, rfl, qS, CS⟩ := Kd.R_reads ne_
 obtain ⟨AI, cI, rfl, qI, CI⟩ := Kd.R_reads RI.out
 have HNE := Aside0.mk (show ∀ j, some j = (Value.slice AS R.length cS).ownBlock → ¬ some j = (Value.slice AI R.length cI).ownBlock from fun j hj => (ne_.1 j hj.symm).2)
 have RS := Aside0.mk (Kd.R_tight rfl ne_)
 clear HB RS0 hb hRI ne_
 have HB := n0_
 clear n0_
 go_upto_region 10 with (first
  | (go_at_call 42; refine (laws_eqTokenS.calls k AI cI R AS cS R true _ CI qI CS qS HE.out).mono ?_; rintro e w3 ⟨rfl, hb⟩))
 have n0_ := Aside0.mk (below_step HB.out hb)
 have n1_ := Aside0.mk (Kd.R_below RS.out hb)
 have n2_ := Aside0.mk (Kd.R_below RI.out hb)
 clear HB RS RI CI CS hb
 have HB := n0_
 have RS := n1_
 have RI := n2_
 clear n0_ n1_ n2_
 go_upto_region 12 with (first
  | (go_at_call 43; refine (laws_markTokenS.calls k _ (.slice AI R.length cI) R 1 M R' w _ HB.out RI.out HMK.out).mono ?_; rintro e w4 ⟨rfl, hr, hb, hk⟩))
 have n1_ := Aside0.mk (Kd.R_kept RS.out hk (fun j hj hs => HNE.out j hj hs))
 have n2_ := Aside0.mk (Kd.R_tight rfl hr)
 have n0_ := Aside0.mk hb
 clear HB RS RI hb hk hr
 have HB := n0_
 have RS := n1_
 have RI := n2_
 clear n0_ n1_ n2_
 have hrl := (Kd.R_reads' RI.out).1
 have MH := Aside0.mk (show ∀ w', Kd.R k94 94 w' w.heap.size (fun j => some j = (Value.slice AI R.length cI).ownBlock) (.slice AI R.length cI) R' → Calls Tryd.prog 44 #[.slice AI R.length cI, .int .i64 1] w' fun e w2 => e = .returned (.int .i64 M) ∧ Below w'.heap.size w' w2 from fun w' h => by
  obtain ⟨_, h2, h3⟩ := Kd.R_reads' h
  rw [hrl] at h2 ⊢
  exact laws_heldTokenS.calls k AI cI R' 1 M w' h3 h2 HH.out)
 clear hrl
 go_upto_region 13 with (first
  | (go_at_call 44; refine (MH.out _ RI.out).mono ?_; rintro e w5 ⟨rfl, hb⟩))
 have n0_ := Aside0.mk (below_step HB.out hb)
 have n1_ := Aside0.mk (Kd.R_below RS.out hb)
 have n2_ := Aside0.mk (Kd.R_below RI.out hb)
 clear HB RS RI hb
 have HB := n0_
 have RS := n1_
 have RI := n2_
 clear n0_ n1_ n2_
 go_upto_region 18 with (first
  | (go_at_call 34; refine (HI.out _ HB.out).mono ?_; rintro e w6 ⟨vH, rfl, hRH, hb⟩))
 have n0_ := Aside0.mk (below_step HB.out hb)
 have n1_ := Aside0.mk (Kd.R_below RS.out hb)
 have n2_ := Aside0.mk (Kd.R_below RI.out hb)
 clear HB RS RI hb
 have HB := n0_
 have RS := n1_
 have RI := n2_
 clear n0_ n1_ n2_
 obtain ⟨AH, cH, rfl, qH, CH⟩ := Kd.R_reads hRH
 have CS := (Kd.R_reads' RS.out).2.2
 go_upto_region 21 with (first
  | (go_at_call 42; refine (laws_eqTokenS.calls k AH cH R AS cS R true _ CH qH CS qS HE.out).mono ?_; rintro e w7 ⟨rfl, hb⟩))
 have n0_ := Aside0.mk (below_step HB.out hb)
 have n2_ := Aside0.mk (Kd.R_below RI.out hb)
 clear HB RS RI CH CS hb hRH
 have HB := n0_
 have RI := n2_
 clear n0_ n2_
 go_wp2_with (first
  | (go_at_call 44; refine (MH.out _ RI.out).mono ?_; rintro e w8 ⟨rfl, hb⟩))
 go_ret
 exact ⟨rfl, below_step HB.out hb⟩
set_option maxHeartbeats 8000000 in
set_option maxRecDepth 100000 in
theorem tr.law_big (old data : ByteArray) (sd : Int) (w : World) (h : (old.size : Int) > 1048576 ∨ (data.size : Int) > 1048576) :
 Calls Tryd.prog 11 #[.string old, .string data, .int .u32 sd] w fun e w' => e = .returned (.bool true) ∧ Below w.heap.size w w' := by
 by_cases ho : (old.size : Int) > 1048576
 ·
  have hob : decide ((old.size : Int) > 1048576) = true := decide_eq_true ho
  have hob2 : decide (1048576 < (old.size : Int)) = true := hob
  go_enter Tryd.func11, Tryd.ntmps11
  go_wp2
  go_ret
  exact ⟨rfl, Below.refl _ _⟩
 ·
  have hd : (data.size : Int) > 1048576 := h.resolve_left ho
  have hob : decide ((old.size : Int) > 1048576) = false := decide_eq_false ho
  have hob2 : decide (1048576 < (old.size : Int)) = false := hob
  have hdb : decide ((data.size : Int) > 1048576) = true := decide_eq_true hd
  have hdb2 : decide (1048576 < (data.size : Int)) = true := hdb
  go_enter Tryd.func11, Tryd.ntmps11
  go_wp2
  go_ret
  exact ⟨rfl, Below.refl _ _⟩
end Go.Proofs.YtbkodnhnadkhdaaDoor.PTr
