/- The walk of the law on drawn transfers, all answers known. No condition. -/
import Derived.Test.YtbkodnhnadkhdaaDoorPFtx0
import Derived.Test.YtbkodnhnadkhdaaDoorPFtx4
import Derived.Test.YtbkodnhnadkhdaaDoorPFtx5
import Derived.Test.YtbkodnhnadkhdaaDoorPFtx7
import Derived.Test.YtbkodnhnadkhdaaDoorPFtx9
import Derived.Test.YtbkodnhnadkhdaaDoorStrW
import Derived.LoopTactic
import Derived.BigQuiet
import Derived.ChangeKeysEq
namespace Go.Proofs.YtbkodnhnadkhdaaDoor.PFt
open Go Go.RowKit Go.Proofs.YtbkodnhnadkhdaaDoorW.PrintWords Go.Proofs.YtbkodnhnadkhdaaDoorW.PrintLast Go.Proofs.YtbkodnhnadkhdaaDoorW.PrintMore
set_option linter.unusedVariables false
set_option linter.unusedSimpArgs false
attribute [local go_sem] max2_int min2_int max_two min_two max_three min_three max_four min_four
theorem ft.sum_wf (s : ByteArray) : ∀ x ∈ YtbkodnhnadkhdaaDoor.Str.sumOf s, (Lit.int .u8 x).wf = true := fun x hx => by
  have : 0 ≤ x ∧ x ≤ 255 := by
    unfold YtbkodnhnadkhdaaDoor.Str.sumOf at hx
    split at hx
    · exact YtbkodnhnadkhdaaDoor.Str.md5_bytes s x hx
    · have := List.eq_of_mem_replicate hx; omega
  simp [Lit.wf, IntKind.min, IntKind.max, IntKind.signed, IntKind.bits]
  omega
/-- An array of 16 bytes is itself. -/
theorem ft.eq16 (X : List Int) (hx : X.length = 16) (bx : ∀ x ∈ X, (Lit.int .u8 x).wf = true) (w : World) : (Op.equalIn 10000 28 (.agg (YtbkodnhnadkhdaaDoor.Mix.arr .u8 X)) (.agg (YtbkodnhnadkhdaaDoor.Mix.arr .u8 X))).run Tryd.prog w = .ok true w := by
  have c5 : Tryd.prog.cellsOf 5 = 1 := by kernel_rfl
  have k5 : ∀ x : Int, (Lit.int .u8 x).wf = true → Tryd.prog.keyLits 2 5 [Value.int .u8 x] = some [Lit.int .u8 x] := fun x h => by
    simp only [Program.keyLits, Tryd.underlying5]
    simp [h]
  have key : (List.range 16).mapM (fun i => Tryd.prog.keyLits 2 5 (((YtbkodnhnadkhdaaDoor.Mix.arr .u8 X).toList.drop (i * Tryd.prog.cellsOf 5)).take (Tryd.prog.cellsOf 5))) = some (X.map fun x => [Lit.int .u8 x]) := by
    rw [c5]
    match X, hx, bx with
    | [a0, a1, a2, a3, a4, a5, a6, a7, a8, a9, a10, a11, a12, a13, a14, a15], _, hb =>
      simp [show List.range 16 = [0, 1, 2, 3, 4, 5, 6, 7, 8, 9, 10, 11, 12, 13, 14, 15] from rfl, YtbkodnhnadkhdaaDoor.Mix.arr, List.mapM_cons, k5 _ (hb a0 (by simp)), k5 _ (hb a1 (by simp)), k5 _ (hb a2 (by simp)), k5 _ (hb a3 (by simp)), k5 _ (hb a4 (by simp)), k5 _ (hb a5 (by simp)), k5 _ (hb a6 (by simp)), k5 _ (hb a7 (by simp)), k5 _ (hb a8 (by simp)), k5 _ (hb a9 (by simp)), k5 _ (hb a10 (by simp)), k5 _ (hb a11 (by simp)), k5 _ (hb a12 (by simp)), k5 _ (hb a13 (by simp)), k5 _ (hb a14 (by simp)), k5 _ (hb a15 (by simp))]
  obtain ⟨i0, hi, _⟩ := Option.map_eq_some_iff.1 (show (Tryd.prog.info? 5).map (fun i => (i.zero, i.size, i.bytes)) = some (some (.int .u8 0), 1, 1) by kernel_rfl)
  have h0 := run_equalIn_array (P := Tryd.prog) (w := w) 9999 (e := 5) (n := 16) (i := i0) (YtbkodnhnadkhdaaDoor.Mix.arr .u8 X) (YtbkodnhnadkhdaaDoor.Mix.arr .u8 X) Tryd.underlying28 hi
  obtain ⟨r, hr, hiff⟩ := run_eqItems_plain (P := Tryd.prog) (w := w) 9998 (e := 5) (by kernel_rfl) (YtbkodnhnadkhdaaDoor.Mix.arr .u8 X) (YtbkodnhnadkhdaaDoor.Mix.arr .u8 X) (D := 2) (D' := 2) (List.range 16) _ _ key key
  rw [c5] at h0 hr
  rw [hiff.2 rfl] at hr
  exact h0.trans hr
set_option maxHeartbeats 16000000 in
set_option maxRecDepth 100000 in
theorem ft.law (k : Nat) (A0 : Option Addr) (c0 : Nat) (l : List Int) (old data : ByteArray) (sd : Int) (got : ByteArray) (R O : List S94) (again : Bool) (size x : Int) (w : World) (hT : Tab w)
    (hr0 : Kd.C (Kd.int .u8) w A0 l.length l) (hc0 : l.length ≤ c0) (hb : laws_big.f l = some false)
    (hDr : spec_DrawTransfer.f k l = some (old, data, sd)) (hTr : impl_Transfer.f k old data sd = some (got, R, again)) (hBs : impl_BlockSize.f k old.size = some size)
    (hP1 : impl_Patch.f k old size R = some (got, true)) (hO : impl_OnlyLiterals.f k data = some O) (hP2 : impl_Patch.f k old size O = some (data, true))
    (hL1 : impl_LiteralBytes.f k O = some (data.size : Int)) (hL2 : impl_LiteralBytes.f k R = some x) (hx : x ≤ (data.size : Int))
    (hS : again = true → laws_sameTokens.f k R O = some true)
    (hg : got = data ∨ (got.toList == data.toList) = false ∧ again = false ∧ YtbkodnhnadkhdaaDoor.Str.sumOf got = YtbkodnhnadkhdaaDoor.Str.sumOf data) :
    Calls Tryd.prog 9 #[.slice A0 l.length c0] w fun e w' => e = .returned (.bool true) ∧ Below w.heap.size w w' := by
  have hxb : decide (x ≤ (data.size : Int)) = true := decide_eq_true hx
  have hl : ∀ x, (YtbkodnhnadkhdaaDoor.Str.sumOf x).length = 16 := fun x => by unfold YtbkodnhnadkhdaaDoor.Str.sumOf; split; (· exact YtbkodnhnadkhdaaDoor.Str.md5_length x); (· simp)
  have ST : ∀ (x : ByteArray) (w' : World), Calls Tryd.prog 16 #[.string x] w' fun e w2 => e = .returned (.agg (YtbkodnhnadkhdaaDoor.Mix.arr .u8 (YtbkodnhnadkhdaaDoor.Str.sumOf x))) ∧ Below w'.heap.size w' w2 := fun x w' => by
    rw [← YtbkodnhnadkhdaaDoor.Str.b16_arr _ (hl x)]
    exact YtbkodnhnadkhdaaDoor.Str.strongOfS x w'
  have hz := ft.eq16 (YtbkodnhnadkhdaaDoor.Str.sumOf data) (hl _) (ft.sum_wf _)
  have M1 := Aside0.mk (ST got)
  have M2 := Aside0.mk (ST data)
  have HT := Aside0.mk hT
  have HR0 := Aside0.mk hr0
  have HC0 := Aside0.mk hc0
  have HBG := Aside0.mk hb
  have HDR := Aside0.mk hDr
  have HTR := Aside0.mk hTr
  have HBS := Aside0.mk hBs
  have HP1 := Aside0.mk hP1
  have HO := Aside0.mk hO
  have HP2 := Aside0.mk hP2
  have HL1 := Aside0.mk hL1
  have HL2 := Aside0.mk hL2
  have HS := Aside0.mk hS
  have HG := Aside0.mk hg
  clear hT hr0 hc0 hb hDr hTr hBs hP1 hO hP2 hL1 hL2 hS hg hl ST
  go_enter Tryd.func9, Tryd.ntmps9
  go_upto_region 3 with (first
    | (go_at_call 32; refine (laws_big.calls A0 c0 l false _ HR0.out HC0.out HBG.out).mono ?_; rintro e w1 ⟨rfl, hb⟩; have HB := Aside0.mk (Drawn0.below hb); have n0_ := Aside0.mk (Kd.C_below HR0.out (Drawn0.below hb)); clear HR0 hb; have HR0 := n0_; clear n0_))
  go_upto_region 4 with (first
    | (go_at_call 33; refine (spec_DrawTransfer.calls k A0 c0 l old data sd _ HR0.out HC0.out HDR.out).mono ?_; rintro e w2 ⟨rfl, hb⟩; have n0_ := Aside0.mk (below_step HB.out hb); clear HB HR0 hb; have HB := n0_; clear n0_))
  go_upto_region 5 with (first
    | (go_at_call 34; refine (impl_Transfer.calls k old data sd got R again _ (HT.out.below HB.out) HTR.out).mono ?_; rintro e w3 ⟨vR, rfl, hRR, hb⟩; have RR := Aside0.mk (Kd.R_lower hRR HB.out.size); have n0_ := Aside0.mk (below_step HB.out hb); clear HB hb hRR; have HB := n0_; clear n0_; obtain ⟨AR, cR, rfl, qR, CR⟩ := Kd.R_reads RR.out))
  clear CR
  go_cut [42] (fun v42 wc => v42 = .bool false ∧ Aside0 (Kd.R k94 94 wc w.heap.size (fun _ => True) (.slice AR R.length cR) R) ∧ Aside0 (Below w.heap.size w wc))
  case first =>
    rcases HG.out with rfl | ⟨hne, rfl, he⟩
    · cases again with
      | false =>
        go_wp2
        go_meet
        case rel => exact ⟨by first | rfl | simp, RR, HB⟩
      | true =>
        go_wp2
        go_meet
        case rel => exact ⟨by first | rfl | simp, RR, HB⟩
    · have hneb : (got.toList != data.toList) = true := by rw [bne, hne]; rfl
      rw [he] at M1
      obtain ⟨X, hX⟩ : ∃ X, X = YtbkodnhnadkhdaaDoor.Mix.arr .u8 (YtbkodnhnadkhdaaDoor.Str.sumOf data) := ⟨_, rfl⟩
      rw [← hX] at M1 M2 hz
      clear hX he
      go_wp2_with (first
        | (go_at_call_of 16 (Value.string got); refine (M1.out _).mono ?_; rintro e w5 ⟨rfl, hb5⟩; have n0_ := Aside0.mk (below_step HB.out hb5); have n1_ := Aside0.mk (Kd.R_below RR.out hb5); clear HB RR; have HB := n0_; have RR := n1_; clear n0_ n1_)
        | (go_at_call_of 16 (Value.string data); refine (M2.out _).mono ?_; rintro e w6 ⟨rfl, hb6⟩; have n0_ := Aside0.mk (below_step HB.out hb6); have n1_ := Aside0.mk (Kd.R_below RR.out hb6); clear HB RR; have HB := n0_; have RR := n1_; clear n0_ n1_))
      go_meet
      case rel => exact ⟨by first | rfl | simp, RR, HB⟩
  case rest =>
  clear HB RR
  obtain ⟨rfl, RR, HB⟩ := hcut
  clear HG M1 M2 hz
  go_upto_region 8 with (first
    | (go_at_call 36; refine (impl_BlockSize.calls k old.size size _ HBS.out).mono ?_; rintro e w7 ⟨rfl, hb⟩; have n0_ := Aside0.mk (below_step HB.out (Drawn0.below hb)); have n1_ := Aside0.mk (Kd.R_below RR.out (Drawn0.below hb)); clear HB RR hb; have HB := n0_; have RR := n1_; clear n0_ n1_)
    | (go_at_call 35; refine (impl_Patch.calls k old size AR cR R got true _ (Kd.R_reads' RR.out).2.2 (Kd.R_reads' RR.out).2.1 HP1.out).mono ?_; rintro e w8 ⟨rfl, hb⟩; have n0_ := Aside0.mk (below_step HB.out hb); have n1_ := Aside0.mk (Kd.R_below RR.out hb); clear HB RR hb; have HB := n0_; have RR := n1_; clear n0_ n1_))
  go_upto_region 9 with (first
    | (go_at_call 37; refine (impl_OnlyLiterals.calls k data O _ HO.out).mono ?_; rintro e w9 ⟨vO, rfl, hRO, hb⟩))
  have RO := Aside0.mk (Kd.R_lower hRO HB.out.size)
  have n0_ := Aside0.mk (below_step HB.out hb)
  have n1_ := Aside0.mk (Kd.R_below RR.out hb)
  clear HB RR hb hRO
  have HB := n0_
  have RR := n1_
  clear n0_ n1_
  obtain ⟨AO, cO, rfl, qO, CO⟩ := Kd.R_reads RO.out
  clear CO
  go_upto_region 10 with (first
    | (go_at_call 36; refine (impl_BlockSize.calls k old.size size _ HBS.out).mono ?_; rintro e w10 ⟨rfl, hb⟩; have n0_ := Aside0.mk (below_step HB.out (Drawn0.below hb)); have n1_ := Aside0.mk (Kd.R_below RR.out (Drawn0.below hb)); have n2_ := Aside0.mk (Kd.R_below RO.out (Drawn0.below hb)); clear HB RR RO hb; have HB := n0_; have RR := n1_; have RO := n2_; clear n0_ n1_ n2_)
    | (go_at_call 35; refine (impl_Patch.calls k old size AO cO O data true _ (Kd.R_reads' RO.out).2.2 (Kd.R_reads' RO.out).2.1 HP2.out).mono ?_; rintro e w11 ⟨rfl, hb⟩; have n0_ := Aside0.mk (below_step HB.out hb); have n1_ := Aside0.mk (Kd.R_below RR.out hb); have n2_ := Aside0.mk (Kd.R_below RO.out hb); clear HB RR RO hb; have HB := n0_; have RR := n1_; have RO := n2_; clear n0_ n1_ n2_))
  have m1 : ∀ {w' : World} {A : Option Addr} {c : Nat} {L : List S94}, Kd.R k94 94 w' w.heap.size (fun _ => True) (.slice A L.length c) L → Kd.C k94 w' A L.length L ∧ L.length ≤ c := fun h => ⟨(Kd.R_reads' h).2.2, (Kd.R_reads' h).2.1⟩
  cases again with
  | false =>
    go_wp2_with (first
      | (go_at_call_of 38 (Value.slice AO O.length cO); refine (impl_LiteralBytes.calls k AO cO O data.size _ (m1 RO.out).1 (m1 RO.out).2 HL1.out).mono ?_; rintro e w12 ⟨rfl, hb⟩; have n0_ := Aside0.mk (below_step HB.out hb); have n1_ := Aside0.mk (Kd.R_below RR.out hb); have n2_ := Aside0.mk (Kd.R_below RO.out hb); clear HB RR RO hb; have HB := n0_; have RR := n1_; have RO := n2_; clear n0_ n1_ n2_)
      | (go_at_call_of 38 (Value.slice AR R.length cR); refine (impl_LiteralBytes.calls k AR cR R x _ (m1 RR.out).1 (m1 RR.out).2 HL2.out).mono ?_; rintro e w13 ⟨rfl, hb⟩; have n0_ := Aside0.mk (below_step HB.out hb); have n1_ := Aside0.mk (Kd.R_below RR.out hb); have n2_ := Aside0.mk (Kd.R_below RO.out hb); clear HB RR RO hb; have HB := n0_; have RR := n1_; have RO := n2_; clear n0_ n1_ n2_))
    go_ret
    exact ⟨by first | rfl | simp [hxb], HB.out⟩
  | true =>
    have HS1 := Aside0.mk (HS.out rfl)
    go_wp2_with (first
      | (go_at_call 39; refine (laws_sameTokens.calls k AR cR R AO cO O true _ (m1 RR.out).1 (m1 RR.out).2 (m1 RO.out).1 (m1 RO.out).2 HS1.out).mono ?_; rintro e w14 ⟨rfl, hb⟩; have n0_ := Aside0.mk (below_step HB.out (Drawn0.below hb)); have n1_ := Aside0.mk (Kd.R_below RR.out (Drawn0.below hb)); have n2_ := Aside0.mk (Kd.R_below RO.out (Drawn0.below hb)); clear HB RR RO hb; have HB := n0_; have RR := n1_; have RO := n2_; clear n0_ n1_ n2_)
      | (go_at_call_of 38 (Value.slice AO O.length cO); refine (impl_LiteralBytes.calls k AO cO O data.size _ (m1 RO.out).1 (m1 RO.out).2 HL1.out).mono ?_; rintro e w12 ⟨rfl, hb⟩; have n0_ := Aside0.mk (below_step HB.out hb); have n1_ := Aside0.mk (Kd.R_below RR.out hb); have n2_ := Aside0.mk (Kd.R_below RO.out hb); clear HB RR RO hb; have HB := n0_; have RR := n1_; have RO := n2_; clear n0_ n1_ n2_)
      | (go_at_call_of 38 (Value.slice AR R.length cR); refine (impl_LiteralBytes.calls k AR cR R x _ (m1 RR.out).1 (m1 RR.out).2 HL2.out).mono ?_; rintro e w13 ⟨rfl, hb⟩; have n0_ := Aside0.mk (below_step HB.out hb); have n1_ := Aside0.mk (Kd.R_below RR.out hb); have n2_ := Aside0.mk (Kd.R_below RO.out hb); clear HB RR RO hb; have HB := n0_; have RR := n1_; have RO := n2_; clear n0_ n1_ n2_))
    go_ret
    exact ⟨by first | rfl | simp [hxb], HB.out⟩
set_option maxHeartbeats 8000000 in
set_option maxRecDepth 100000 in
theorem ft.law_big (A0 : Option Addr) (c0 : Nat) (l : List Int) (w : World) (hr0 : Kd.C (Kd.int .u8) w A0 l.length l) (hc0 : l.length ≤ c0) (hb : laws_big.f l = some true) :
    Calls Tryd.prog 9 #[.slice A0 l.length c0] w fun e w' => e = .returned (.bool true) ∧ Below w.heap.size w w' := by
  have HR0 := Aside0.mk hr0
  have HC0 := Aside0.mk hc0
  have HBG := Aside0.mk hb
  clear hr0 hc0 hb
  go_enter Tryd.func9, Tryd.ntmps9
  go_wp2_with (first
    | (go_at_call 32; refine (laws_big.calls A0 c0 l true _ HR0.out HC0.out HBG.out).mono ?_; rintro e w1 ⟨rfl, hb⟩; have HB := Aside0.mk (Drawn0.below hb); clear hb))
  go_ret
  exact ⟨rfl, HB.out⟩
end Go.Proofs.YtbkodnhnadkhdaaDoor.PFt
