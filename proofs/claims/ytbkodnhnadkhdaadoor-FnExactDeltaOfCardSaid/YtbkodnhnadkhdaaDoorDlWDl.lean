/- The walk through the law on DeltaOf, all answers known. No condition. -/
import Derived.Test.YtbkodnhnadkhdaaDoorPDlx0
import Derived.Test.YtbkodnhnadkhdaaDoorPDlx8
import Derived.Test.YtbkodnhnadkhdaaDoorPDlx9
import Derived.Test.YtbkodnhnadkhdaaDoorPDlx11
import Derived.LoopTactic
import Derived.BigQuiet
namespace Go.Proofs.YtbkodnhnadkhdaaDoor.PDl
open Go Go.RowKit Go.Proofs.YtbkodnhnadkhdaaDoorW.PrintWords Go.Proofs.YtbkodnhnadkhdaaDoorW.PrintLast Go.Proofs.YtbkodnhnadkhdaaDoorW.PrintMore
set_option linter.unusedVariables false
set_option linter.unusedSimpArgs false
attribute [local go_sem] max2_int min2_int max_two min_two max_three min_three max_four min_four
theorem law_DeltaOf.row4 {w : World} {g t : Nat} {x0 x1 x2 x3 : Value} (h : w.heap[g]? = some (.cells #[x0, x1, x2, x3] t (0, 0))) :
    w.cell? ⟨g, 0, none⟩ = some x0 ∧ w.cell? ⟨g, 1, none⟩ = some x1 ∧ w.cell? ⟨g, 2, none⟩ = some x2 ∧ w.cell? ⟨g, 3, none⟩ = some x3 := by
  simp [World.cell?, h]
theorem law_DeltaOf.apart {α β : Type} {d : Kd α} {d' : Kd β} {e e' base base' : Nat} {w : World} {ok ok' : Nat → Prop} {v u : Value} {xs : List α} {ys : List β} (h : d.R e w base ok v xs) (h' : d'.R e' w base' ok' u ys) (hne : e ≠ e') (k : Nat) (hk : some k = v.ownBlock) : ¬ some k = u.ownBlock := fun hu => by
  obtain ⟨cs, h1⟩ := Kd.R_typed h k hk.symm
  obtain ⟨cs', h2⟩ := Kd.R_typed h' k hu.symm
  rw [h1] at h2
  injection h2 with h2
  injection h2 with _ h2
  exact hne h2
def law_DeltaOf.T10_12 : Bool × List (List Nat × List Nat) := (true, [([], []), ([], []), ([1], [1]), ([0, 2, 2], [0, 2]), ([3], [3])])
def law_DeltaOf.B10_12 : List Nat := [0, 0, 2, 7, 15]
theorem law_DeltaOf.tab10_12 : rtab .any (opsOf Tryd.f10 12) = law_DeltaOf.T10_12 := by kernel_rfl
theorem law_DeltaOf.bits10_12 : waitsOk law_DeltaOf.T10_12.2 law_DeltaOf.B10_12 = true := by kernel_rfl
set_option maxHeartbeats 16000000 in
set_option maxRecDepth 100000 in
theorem law_DeltaOf.calls (k : Nat) (a b : Int) (A : Option Addr) (c : Nat) (l : List Int) (B : Option Addr) (d : Nat) (m : List ByteArray) (sd : Int) (s : ByteArray) (t q M : Int) (R R' : List S94) (y2 : List Int) (y3 : List ByteArray) (w : World) (hT : Tab w)
    (g1 : l.length ≤ c) (g2 : Kd.C (Kd.int .u32) w A l.length l) (g3 : m.length ≤ d) (g4 : Kd.C Kd.string w B m.length m) (hs : ¬ (s.size : Int) > 1048576) (ht : ¬ t < 0) (hq : ¬ q < 0) (hM : ¬ M < 0)
    (hsz : laws_szSig.f k a b l m 1048576 = some t) (hto : laws_toSig.f k a b l m = some (a, b, l, m)) (hS : spec_DeltaOf.f k a b l m sd s = some R) (hI : impl_DeltaOf.f k a b l m sd s = some R) (hE : laws_eqTokenS.f k R R = some true)
    (hQ : laws_eqSig.f k a b l m a b l m = some true) (hK : laws_markSig.f k a b l m 1 = some (q, y2, y3)) (hMk : laws_markTokenS.f k R 1 = some (M, R')) (hH : laws_heldTokenS.f k R' 1 = some M) :
    Calls Tryd.prog 10 #[.agg #[.int .i64 a, .int .i64 b, .slice A l.length c, .slice B m.length d], .int .u32 sd, .string s] w fun e w' => e = .returned (.bool true) ∧ Below w.heap.size w w' := by
  have hsb : decide ((s.size : Int) > 1048576) = false := decide_eq_false hs
  have hsb2 : decide (1048576 < (s.size : Int)) = false := hsb
  have htb : decide (t < 0) = false := decide_eq_false ht
  have hqb : decide (q < 0) = false := decide_eq_false hq
  have hMb : decide (M < 0) = false := decide_eq_false hM
  have HT := Aside0.mk hT
  have G2 := Aside0.mk g2
  have G4 := Aside0.mk g4
  have HSZ := Aside0.mk hsz
  have HTO := Aside0.mk hto
  have HS := Aside0.mk hS
  have HI := Aside0.mk hI
  have HE := Aside0.mk hE
  have HQ := Aside0.mk hQ
  have HK := Aside0.mk hK
  have HMK := Aside0.mk hMk
  have HH := Aside0.mk hH
  have G1 := Aside0.mk g1
  have G3 := Aside0.mk g3
  clear hT g1 g2 g3 g4 hsz hto hS hI hE hQ hK hMk hH
  go_enter Tryd.func10, Tryd.ntmps10
  go_upto_region 1 with fail
  have B3 := Aside0.mk (blk_new w (.cells #[.int .i64 a, .int .i64 b, .slice A l.length c, .slice B m.length d] 45 (0, 0)))
  have HB0 := Aside0.mk (below_alloc (Below.refl w.heap.size w) (.cells #[.int .i64 a, .int .i64 b, .slice A l.length c, .slice B m.length d] 45 (0, 0)))
  generalize w.alloc _ = W1 at B3 HB0 ⊢
  have hlt3 := blk_lt B3.out
  obtain ⟨y0, y1, y2', y3'⟩ := law_DeltaOf.row4 B3.out
  go_upto_region 5 with (first | (go_at_call 28; refine (laws_szSig.calls k a b A c l B d m 1048576 t _ (Kd.C_below G2.out HB0.out) G1.out (Kd.C_below G4.out HB0.out) G3.out HSZ.out).mono ?_; rintro e w2 ⟨rfl, hb⟩))
  have HB := Aside0.mk hb
  clear hb y0 y1 y2' y3'
  obtain ⟨y0, y1, y2', y3'⟩ := law_DeltaOf.row4 ((HB.out.block _ hlt3).trans B3.out)
  have TO : ∀ w', Below W1.heap.size W1 w' → Calls Tryd.prog 30 #[.agg #[.int .i64 a, .int .i64 b, .slice A l.length c, .slice B m.length d]] w' fun e w2 => ∃ v2 v3 : Value, e = .returned (.agg #[.int .i64 a, .int .i64 b, v2, v3]) ∧ Kd.R (Kd.int .u32) 22 w2 w'.heap.size (fun _ => True) v2 l ∧ Kd.R Kd.string 9 w2 w'.heap.size (fun _ => True) v3 m ∧ Below w'.heap.size w' w2 := fun w' hb => laws_toSig.calls k a b A c l B d m a b l m w' (Kd.C_below G2.out (below_step HB0.out hb)) G1.out (Kd.C_below G4.out (below_step HB0.out hb)) G3.out HTO.out
  have MTO := Aside0.mk TO
  clear TO
  go_upto_region 8 with (first
    | (go_at_call 30; refine (MTO.out _ HB.out).mono ?_; rintro e w3 ⟨v2, v3, rfl, hv2, hv3, hb⟩; have n0_ := Aside0.mk (below_step HB.out hb); clear HB hb; have HB := n0_; clear n0_; obtain ⟨A2, c2, rfl, q2, C2⟩ := Kd.R_reads hv2; obtain ⟨A3, c3, rfl, q3, C3⟩ := Kd.R_reads hv3; clear hv2 hv3)
    | (go_at_call 40; refine (spec_DeltaOf.calls k a b A2 c2 l A3 c3 m sd s R _ C2 q2 C3 q3 HS.out).mono ?_; rintro e w4 ⟨vS, rfl, hRS, hb⟩))
  have RS := Aside0.mk (Kd.R_lower hRS HB.out.size)
  have n0_ := Aside0.mk (below_step HB.out hb)
  clear HB hb hRS C2 C3 y0 y1 y2' y3'
  have HB := n0_
  clear n0_
  obtain ⟨y0, y1, y2', y3'⟩ := law_DeltaOf.row4 ((HB.out.block _ hlt3).trans B3.out)
  go_upto_region 9 with (first
    | (go_at_call 30; refine (MTO.out _ HB.out).mono ?_; rintro e w5 ⟨v2, v3, rfl, hv2, hv3, hb⟩; have n0_ := Aside0.mk (below_step HB.out hb); have n1_ := Aside0.mk (Kd.R_below RS.out hb); have hv2' := Aside0.mk (Kd.R_lower hv2 HB.out.size); have hv3' := Aside0.mk (Kd.R_lower hv3 HB.out.size); clear HB RS hb hv2 hv3; have HB := n0_; have RS := n1_; clear n0_ n1_; obtain ⟨A2, c2, rfl, q2, C2⟩ := Kd.R_reads hv2'.out; obtain ⟨A3, c3, rfl, q3, C3⟩ := Kd.R_reads hv3'.out))
  have BX := Aside0.mk (blk_new w5 (.cells #[.int .i64 a, .int .i64 b, .slice A2 l.length c2, .slice A3 m.length c3] 39 (0, 0)))
  have n0_ := Aside0.mk (below_alloc HB.out (.cells #[.int .i64 a, .int .i64 b, .slice A2 l.length c2, .slice A3 m.length c3] 39 (0, 0)))
  have n1_ := Aside0.mk (Kd.R_alloc RS.out (.cells #[.int .i64 a, .int .i64 b, .slice A2 l.length c2, .slice A3 m.length c3] 39 (0, 0)))
  have X2 := Aside0.mk (Kd.R_tight rfl (Kd.R_alloc hv2'.out (.cells #[.int .i64 a, .int .i64 b, .slice A2 l.length c2, .slice A3 m.length c3] 39 (0, 0))))
  have X3 := Aside0.mk (Kd.R_tight rfl (Kd.R_alloc hv3'.out (.cells #[.int .i64 a, .int .i64 b, .slice A2 l.length c2, .slice A3 m.length c3] 39 (0, 0))))
  clear HB RS C2 C3 hv2' hv3' y0 y1 y2' y3'
  generalize w5.alloc _ = W5 at BX n0_ n1_ X2 X3 ⊢
  generalize w5.heap.size = g9 at BX ⊢
  have HB := n0_
  have RS := n1_
  clear n0_ n1_
  obtain ⟨z0, z1, z2, z3⟩ := law_DeltaOf.row4 BX.out
  have C2 := (Kd.R_reads' X2.out).2.2
  have C3 := (Kd.R_reads' X3.out).2.2
  obtain ⟨AS, cS, rfl, qS, CS⟩ := Kd.R_reads RS.out
  go_upto_region 10 with (first
    | (go_at_call 41; refine (impl_DeltaOf.calls k a b A2 c2 l A3 c3 m sd s R _ (HT.out.below (below_step HB0.out HB.out)) C2 q2 C3 q3 HI.out).mono ?_; rintro e w6 ⟨vI, rfl, hRI, hb⟩))
  have RI := Aside0.mk (Kd.R_tight rfl (Kd.R_lower hRI HB.out.size))
  have ne_ := Kd.R_elder' RS.out (Kd.R_base hRI) hb
  have HNE := Aside0.mk (show ∀ j, some j = (Value.slice AS R.length cS).ownBlock → ¬ some j = vI.ownBlock from fun j hj => (ne_.1 j hj.symm).2)
  have n1_ := Aside0.mk (Kd.R_tight rfl ne_)
  have n0_ := Aside0.mk (below_step HB.out hb)
  have n2_ := Aside0.mk (Kd.R_below X2.out hb)
  have n3_ := Aside0.mk (Kd.R_below X3.out hb)
  have n4_ := Aside0.mk ((hb.block _ (blk_lt BX.out)).trans BX.out)
  clear HB RS X2 X3 BX C2 C3 CS hb hRI ne_ z0 z1 z2 z3
  have HB := n0_
  have RS := n1_
  have X2 := n2_
  have X3 := n3_
  have BX := n4_
  clear n0_ n1_ n2_ n3_ n4_
  obtain ⟨AI, cI, rfl, qI, CI⟩ := Kd.R_reads RI.out
  have CS := (Kd.R_reads' RS.out).2.2
  go_upto_region 12 with (first
    | (go_at_call 42; refine (laws_eqTokenS.calls k AI cI R AS cS R true _ CI qI CS qS HE.out).mono ?_; rintro e w7 ⟨rfl, hb⟩))
  have n0_ := Aside0.mk (below_step HB.out hb)
  have n1_ := Aside0.mk (Kd.R_below RS.out hb)
  have n2_ := Aside0.mk (Kd.R_below X2.out hb)
  have n3_ := Aside0.mk (Kd.R_below X3.out hb)
  have n4_ := Aside0.mk ((hb.block _ (blk_lt BX.out)).trans BX.out)
  have n5_ := Aside0.mk (Kd.R_below RI.out hb)
  clear HB RS X2 X3 BX RI CS CI hb
  have HB := n0_
  have RS := n1_
  have X2 := n2_
  have X3 := n3_
  have BX := n4_
  have RI := n5_
  clear n0_ n1_ n2_ n3_ n4_ n5_
  obtain ⟨z0, z1, z2, z3⟩ := law_DeltaOf.row4 BX.out
  obtain ⟨y0, y1, y2', y3'⟩ := law_DeltaOf.row4 ((HB.out.block _ hlt3).trans B3.out)
  have C2 := (Kd.R_reads' X2.out).2.2
  have C3 := (Kd.R_reads' X3.out).2.2
  go_cut [42] (fun v42 wc => v42 = .bool false ∧ Aside0 (Below w7.heap.size w7 wc))
  case first =>
    refine start_ (n := 5) (S := fun w' => w'.cell? ⟨g9, 0, none⟩ = some (.int .i64 a) ∧ w'.cell? ⟨g9, 1, none⟩ = some (.int .i64 b) ∧ w'.cell? ⟨g9, 2, none⟩ = some (.slice A2 l.length c2) ∧ w'.cell? ⟨g9, 3, none⟩ = some (.slice A3 m.length c3) ∧ w'.cell? ⟨w.heap.size, 0, none⟩ = some (.int .i64 a) ∧ w'.cell? ⟨w.heap.size, 1, none⟩ = some (.int .i64 b) ∧ w'.cell? ⟨w.heap.size, 2, none⟩ = some (.slice A l.length c) ∧ w'.cell? ⟨w.heap.size, 3, none⟩ = some (.slice B m.length d)) (ds := []) (bm 5 0) (by kernel_rfl) rfl rfl ⟨z0, z1, z2, z3, y0, y1, y2', y3'⟩ (fun hHeld => ?_); refine with_tabW law_DeltaOf.tab10_12 law_DeltaOf.bits10_12 (fun HT_ HW_ => ?_)
    have HBr := Aside0.mk (below_drew (Below.refl w7.heap.size w7))
    generalize w7.drew = wd at HBr hHeld ⊢
    refine take_ (i := 0) (N := some 38) (v := ?_) (a' := ?_) (bm 5 1) rfl rfl (take_ofW HT_.out HW_.out (by kernel_rfl)) (fun _ _ _ h => h) (Or.inl ⟨by rfl, ?_⟩) hHeld ?_ ?_; rotate_left; · (rintro w' ⟨s0, s1, s2, s3, s4, s5, s6, s7⟩; go_simp; with_reducible rfl)
    rotate_left; · (simp only [Act.put, q1, q2, q3, q4, q5, q6, q7]; rfl)
    refine take_ (i := 1) (N := some 39) (v := ?_) (a' := ?_) (bm 5 3) rfl rfl (take_ofW HT_.out HW_.out (by kernel_rfl)) (fun _ _ _ h => h) (Or.inl ⟨by rfl, ?_⟩) hHeld ?_ ?_; rotate_left; · (rintro w' ⟨s0, s1, s2, s3, s4, s5, s6, s7⟩; go_simp; with_reducible rfl)
    rotate_left; · (simp only [Act.put, q1, q2, q3, q4, q5, q6, q7]; rfl)
    refine one_ (i := 2) (N := some 40) (bm 5 7) rfl rfl (one_of HT_.out (by kernel_rfl)) (by decide) (fun K hK => ?_)
    refine goes_ Tryd.func30 (by kernel_rfl) rfl #[.agg #[.int .i64 a, .int .i64 b, .slice A l.length c, .slice B m.length d]] (by rfl) rfl rfl (by (try simp only [List.map_toArray, List.map_cons, List.map_nil]); first | done | rfl) ?_
    with_reducible refine (MTO.out _ (below_step HB.out HBr.out)).mono ?_
    rintro e w8 ⟨v4, v5, rfl, hv4, hv5, hb⟩
    refine ⟨_, rfl, ?_⟩
    have n0_ := Aside0.mk (below_step HBr.out hb)
    clear HBr
    have HBr := n0_
    clear n0_
    clear hb
    obtain ⟨A4, c4, rfl, q4, C4⟩ := Kd.R_reads hv4
    obtain ⟨A5, c5, rfl, q5, C5⟩ := Kd.R_reads hv5
    refine hK.out _ _ ⟨pw_cell_below HBr.out z0, pw_cell_below HBr.out z1, pw_cell_below HBr.out z2, pw_cell_below HBr.out z3, pw_cell_below HBr.out y0, pw_cell_below HBr.out y1, pw_cell_below HBr.out y2', pw_cell_below HBr.out y3'⟩ (fun hHeld => ?_)
    clear hK K
    refine norm_ (a' := ?_) ?_ ?_
    rotate_left
    · (show Act.put _ (some 40) _ = _; simp only [Act.put, q1, q2, q3, q4, q5, q6, q7]; rfl)
    refine one_ (i := 3) (N := some 41) (bm 5 15) rfl rfl (one_of HT_.out (by kernel_rfl)) (by decide) (fun K hK => ?_)
    refine goes_ Tryd.func25 (by kernel_rfl) rfl #[.agg #[.int .i64 a, .int .i64 b, .slice A2 l.length c2, .slice A3 m.length c3], .agg #[.int .i64 a, .int .i64 b, .slice A4 l.length c4, .slice A5 m.length c5]] (by rfl) rfl rfl (by (try simp only [List.map_toArray, List.map_cons, List.map_nil]); first | done | rfl) ?_
    with_reducible refine (laws_eqSig.calls k a b A2 c2 l A3 c3 m a b A4 c4 l A5 c5 m true _ (Kd.C_below C2 HBr.out) q2 (Kd.C_below C3 HBr.out) q3 C4 q4 C5 q5 HQ.out).mono ?_
    rintro e w9 ⟨rfl, hb⟩
    refine ⟨_, rfl, ?_⟩
    have n0_ := Aside0.mk (below_step HBr.out hb)
    clear HBr
    have HBr := n0_
    clear n0_
    clear hb
    refine hK.out _ _ ⟨pw_cell_below HBr.out z0, pw_cell_below HBr.out z1, pw_cell_below HBr.out z2, pw_cell_below HBr.out z3, pw_cell_below HBr.out y0, pw_cell_below HBr.out y1, pw_cell_below HBr.out y2', pw_cell_below HBr.out y3'⟩ (fun hHeld => ?_)
    clear hK K
    refine norm_ (a' := ?_) ?_ ?_
    rotate_left
    · (show Act.put _ (some 41) _ = _; simp only [Act.put, q1, q2, q3, q4, q5, q6, q7]; rfl)
    refine pure_ (i := 4) (N := some 42) (v := ?_) (a' := ?_) (bm 5 31) rfl rfl (any_of HT_.out (by kernel_rfl)) (fun _ _ _ h => h) (Or.inl ⟨by rfl, ?_⟩) ?_ ?_; rotate_left; · (intro w'; go_simp; with_reducible rfl)
    rotate_left; · (simp only [Act.put, q1, q2, q3, q4, q5, q6, q7]; rfl)
    refine done_ (done_of HT_.out (by kernel_rfl)) ?_
    clear hHeld HT_ HW_
    try go_wp2
    go_meet
    case rel => exact ⟨by first | rfl | simp, HBr⟩
  case rest =>
  obtain ⟨rfl, HBc⟩ := hcut
  have n0_ := Aside0.mk (below_step HB.out HBc.out)
  have n1_ := Aside0.mk (Kd.R_below RS.out HBc.out)
  have n2_ := Aside0.mk (Kd.R_below X2.out HBc.out)
  have n3_ := Aside0.mk (Kd.R_below X3.out HBc.out)
  have n4_ := Aside0.mk ((HBc.out.block _ (blk_lt BX.out)).trans BX.out)
  have n5_ := Aside0.mk (Kd.R_below RI.out HBc.out)
  clear HB RS X2 X3 BX RI C2 C3 HBc z0 z1 z2 z3 y0 y1 y2' y3'
  have HB := n0_
  have RS := n1_
  have X2 := n2_
  have X3 := n3_
  have BX := n4_
  have RI := n5_
  clear n0_ n1_ n2_ n3_ n4_ n5_
  obtain ⟨z0, z1, z2, z3⟩ := law_DeltaOf.row4 BX.out
  go_upto_region 16 with (first
    | (go_at_call 26; refine (laws_markSig.calls k a b _ (.slice A2 l.length c2) l _ (.slice A3 m.length c3) m 1 q y2 y3 W1 _ HB.out X2.out X3.out HK.out).mono ?_; rintro e w8 ⟨rfl, _, _, hb, hk⟩))
  have n1_ := Aside0.mk (Kd.R_kept RS.out hk (fun j hj hs => hs.elim (fun h => law_DeltaOf.apart RS.out X2.out (by decide) j hj h) (fun h => law_DeltaOf.apart RS.out X3.out (by decide) j hj h)))
  have n2_ := Aside0.mk (Kd.R_kept RI.out hk (fun j hj hs => hs.elim (fun h => law_DeltaOf.apart RI.out X2.out (by decide) j hj h) (fun h => law_DeltaOf.apart RI.out X3.out (by decide) j hj h)))
  have n0_ := Aside0.mk hb
  clear HB RS X2 X3 BX RI hb hk z0 z1 z2 z3
  have HB := n0_
  have RS := n1_
  have RI := n2_
  clear n0_ n1_ n2_
  have CI := (Kd.R_reads' RI.out).2.2
  have CS := (Kd.R_reads' RS.out).2.2
  go_upto_region 19 with (first
    | (go_at_call 42; refine (laws_eqTokenS.calls k AI cI R AS cS R true _ CI qI CS qS HE.out).mono ?_; rintro e w9 ⟨rfl, hb⟩))
  have n0_ := Aside0.mk (below_step HB.out hb)
  have n1_ := Aside0.mk (Kd.R_below RS.out hb)
  have n2_ := Aside0.mk (Kd.R_below RI.out hb)
  clear HB RS RI CI CS hb
  have HB := n0_
  have RS := n1_
  have RI := n2_
  clear n0_ n1_ n2_
  go_upto_region 21 with (first
    | (go_at_call 43; refine (laws_markTokenS.calls k _ (.slice AI R.length cI) R 1 M R' W1 _ HB.out RI.out HMK.out).mono ?_; rintro e w10 ⟨rfl, hr, hb, hk⟩))
  have n1_ := Aside0.mk (Kd.R_kept RS.out hk (fun j hj hs => HNE.out j hj hs))
  have n2_ := Aside0.mk (Kd.R_tight rfl hr)
  have n0_ := Aside0.mk hb
  clear HB RS RI hb hk hr
  have HB := n0_
  have RS := n1_
  have RI := n2_
  clear n0_ n1_ n2_
  have hrl := (Kd.R_reads' RI.out).1
  have MH := Aside0.mk (show ∀ w', Kd.R k94 94 w' W1.heap.size (fun j => some j = (Value.slice AI R.length cI).ownBlock) (.slice AI R.length cI) R' → Calls Tryd.prog 44 #[.slice AI R.length cI, .int .i64 1] w' fun e w2 => e = .returned (.int .i64 M) ∧ Below w'.heap.size w' w2 from fun w' h => by
    obtain ⟨_, h2, h3⟩ := Kd.R_reads' h
    rw [hrl] at h2 ⊢
    exact laws_heldTokenS.calls k AI cI R' 1 M w' h3 h2 HH.out)
  clear hrl
  go_upto_region 22 with (first
    | (go_at_call 44; refine (MH.out _ RI.out).mono ?_; rintro e w11 ⟨rfl, hb⟩))
  have n0_ := Aside0.mk (below_step HB.out hb)
  have n1_ := Aside0.mk (Kd.R_below RS.out hb)
  have n2_ := Aside0.mk (Kd.R_below RI.out hb)
  clear HB RS RI hb
  have HB := n0_
  have RS := n1_
  have RI := n2_
  clear n0_ n1_ n2_
  obtain ⟨y0, y1, y2', y3'⟩ := law_DeltaOf.row4 ((HB.out.block _ hlt3).trans B3.out)
  go_upto_region 27 with (first
    | (go_at_call 30; refine (MTO.out _ HB.out).mono ?_; rintro e w12 ⟨v6, v7, rfl, hv6, hv7, hb⟩; have n0_ := Aside0.mk (below_step HB.out hb); have n1_ := Aside0.mk (Kd.R_below RS.out hb); have n2_ := Aside0.mk (Kd.R_below RI.out hb); clear HB RS RI hb; have HB := n0_; have RS := n1_; have RI := n2_; clear n0_ n1_ n2_; obtain ⟨A6, c6, rfl, q6, C6⟩ := Kd.R_reads hv6; obtain ⟨A7, c7, rfl, q7, C7⟩ := Kd.R_reads hv7; clear hv6 hv7)
    | (go_at_call 41; refine (impl_DeltaOf.calls k a b A6 c6 l A7 c7 m sd s R _ (HT.out.below (below_step HB0.out HB.out)) C6 q6 C7 q7 HI.out).mono ?_; rintro e w13 ⟨vH, rfl, hRH, hb⟩))
  have n0_ := Aside0.mk (below_step HB.out hb)
  have n1_ := Aside0.mk (Kd.R_below RS.out hb)
  have n2_ := Aside0.mk (Kd.R_below RI.out hb)
  clear HB RS RI hb C6 C7 y0 y1 y2' y3'
  have HB := n0_
  have RS := n1_
  have RI := n2_
  clear n0_ n1_ n2_
  obtain ⟨AH, cH, rfl, qH, CH⟩ := Kd.R_reads hRH
  have CS := (Kd.R_reads' RS.out).2.2
  go_upto_region 30 with (first
    | (go_at_call 42; refine (laws_eqTokenS.calls k AH cH R AS cS R true _ CH qH CS qS HE.out).mono ?_; rintro e w14 ⟨rfl, hb⟩))
  have n0_ := Aside0.mk (below_step HB.out hb)
  have n2_ := Aside0.mk (Kd.R_below RI.out hb)
  clear HB RS RI CH CS hb hRH
  have HB := n0_
  have RI := n2_
  clear n0_ n2_
  go_wp2_with (first
    | (go_at_call 44; refine (MH.out _ RI.out).mono ?_; rintro e w15 ⟨rfl, hb⟩))
  go_ret
  exact ⟨rfl, below_step HB0.out (below_step HB.out hb)⟩
set_option maxHeartbeats 8000000 in
set_option maxRecDepth 100000 in
theorem law_DeltaOf.big (a b : Int) (A : Option Addr) (c : Nat) (l : List Int) (B : Option Addr) (d : Nat) (m : List ByteArray) (sd : Int) (s : ByteArray) (w : World) (hs : (s.size : Int) > 1048576) :
    Calls Tryd.prog 10 #[.agg #[.int .i64 a, .int .i64 b, .slice A l.length c, .slice B m.length d], .int .u32 sd, .string s] w fun e w' => e = .returned (.bool true) ∧ Below w.heap.size w w' := by
  have hsb : decide ((s.size : Int) > 1048576) = true := decide_eq_true hs
  have hsb2 : decide (1048576 < (s.size : Int)) = true := hsb
  go_enter Tryd.func10, Tryd.ntmps10
  go_wp2
  go_ret
  exact ⟨rfl, below_alloc (Below.refl _ _) _⟩
set_option maxHeartbeats 8000000 in
set_option maxRecDepth 100000 in
theorem law_DeltaOf.neg (k : Nat) (a b : Int) (A : Option Addr) (c : Nat) (l : List Int) (B : Option Addr) (d : Nat) (m : List ByteArray) (sd : Int) (s : ByteArray) (t : Int) (w : World)
    (g1 : l.length ≤ c) (g2 : Kd.C (Kd.int .u32) w A l.length l) (g3 : m.length ≤ d) (g4 : Kd.C Kd.string w B m.length m) (hs : ¬ (s.size : Int) > 1048576) (ht : t < 0) (hsz : laws_szSig.f k a b l m 1048576 = some t) :
    Calls Tryd.prog 10 #[.agg #[.int .i64 a, .int .i64 b, .slice A l.length c, .slice B m.length d], .int .u32 sd, .string s] w fun e w' => e = .returned (.bool true) ∧ Below w.heap.size w w' := by
  have hsb : decide ((s.size : Int) > 1048576) = false := decide_eq_false hs
  have hsb2 : decide (1048576 < (s.size : Int)) = false := hsb
  have htb : decide (t < 0) = true := decide_eq_true ht
  have HSZ := Aside0.mk hsz
  have G1 := Aside0.mk g1
  have G2 := Aside0.mk g2
  have G3 := Aside0.mk g3
  have G4 := Aside0.mk g4
  clear hsz g1 g2 g3 g4
  go_enter Tryd.func10, Tryd.ntmps10
  go_upto_region 1 with fail
  have B3 := Aside0.mk (blk_new w (.cells #[.int .i64 a, .int .i64 b, .slice A l.length c, .slice B m.length d] 45 (0, 0)))
  have HB0 := Aside0.mk (below_alloc (Below.refl w.heap.size w) (.cells #[.int .i64 a, .int .i64 b, .slice A l.length c, .slice B m.length d] 45 (0, 0)))
  generalize w.alloc _ = W1 at B3 HB0 ⊢
  obtain ⟨y0, y1, y2', y3'⟩ := law_DeltaOf.row4 B3.out
  go_wp2_with (first | (go_at_call 28; refine (laws_szSig.calls k a b A c l B d m 1048576 t _ (Kd.C_below G2.out HB0.out) G1.out (Kd.C_below G4.out HB0.out) G3.out HSZ.out).mono ?_; rintro e w2 ⟨rfl, hb⟩))
  go_ret
  exact ⟨rfl, below_step HB0.out hb⟩
end Go.Proofs.YtbkodnhnadkhdaaDoor.PDl
