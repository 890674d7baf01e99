-- Made by a program of this session (tools/pr.sh) out of the translation; Lean checks it.
import Derived.Test.YtbkodnhnadkhdaaDoorPFtx0
import Derived.Test.YtbkodnhnadkhdaaDoorPFtx2
import Derived.Test.YtbkodnhnadkhdaaDoorPFtx3
import Derived.Test.YtbkodnhnadkhdaaDoorPFtx4
import Derived.Test.YtbkodnhnadkhdaaDoorPFtx5
namespace Go.Proofs.YtbkodnhnadkhdaaDoor.PFt
open Go.RowKit Go.Proofs.YtbkodnhnadkhdaaDoorW.PrintWords Go.Proofs.YtbkodnhnadkhdaaDoorW.PrintLast Go.Proofs.YtbkodnhnadkhdaaDoorW.PrintMore
attribute [local go_sem] max2_int min2_int max_two min_two max_three min_three max_four min_four   -- for this text's walks alone
set_option linter.unusedVariables false
set_option linter.unusedSimpArgs false

-- GIVEN by hand
/-! ### impl_delta: function 78 -/
/-- How long block q is. -/
def impl_delta.long (sz rs : Int) (n : Nat) (q : Int) : Int := if rs > 0 then (if q = wrap64 ((n : Int) - 1) then rs else sz) else sz
/-- Whether block q fits at a place, by the two lists of weak sums. -/
def impl_delta.fits (sz rs : Int) (wk : List Int) (st : List ByteArray) (sd : Int) (s : ByteArray) (full rest : List Int) (q i : Int) : Bool :=
  if q ≥ (wk.length : Int) then false
  else if i < ((if impl_delta.long sz rs wk.length q = sz then full else rest).length : Int) then
    (if rd (if impl_delta.long sz rs wk.length q = sz then full else rest) i = rd wk q then ((YtbkodnhnadkhdaaDoor.Str.shortOf sd (s.extract i.toNat (wrap64 (i + impl_delta.long sz rs wk.length q)).toNat) 4).toList == (rdOf ByteArray.empty st q).toList) else false)
  else false
/-- The places below n at which the weak sum x stands. -/
def impl_delta.idx (wk : List Int) (x : Int) (n : Nat) : List Int := ((List.range n).filter fun k => wk.getD k 0 == x).map Int.ofNat
/-- The least that fits of a list, or what was the least so far. -/
def impl_delta.pick (F : Int → Bool) : List Int → Int → Int
  | [], b => b
  | q :: l, b => impl_delta.pick F l (if (b < 0 ∨ q < b) ∧ F q = true then q else b)
def impl_delta.seek (F : Int → Bool) (wk full rest : List Int) (i : Int) : Int :=
  let b := if i ≥ (full.length : Int) then (-1) else impl_delta.pick F (impl_delta.idx wk (rd full i) wk.length) (-1)
  if i ≥ (rest.length : Int) then b else impl_delta.pick F (impl_delta.idx wk (rd rest i) wk.length) b
def impl_delta.last (l : List S94) : S94 := rd_T94 l ((l.length : Int) - 1)
def impl_delta.set (l : List S94) (x : S94) : List S94 := l.set (l.length - 1) x
/-- A round: what is behind it, and the next place. -/
def impl_delta.step (sz rs : Int) (wk : List Int) (st : List ByteArray) (sd : Int) (s : ByteArray) (full rest : List Int) (i : Int) (l : List S94) : Int × List S94 :=
  let F := fun q => impl_delta.fits sz rs wk st sd s full rest q i
  let x := impl_delta.last l
  if l ≠ [] ∧ x.f0 = 1 ∧ F (wrap64 (x.f2 + x.f3)) = true then (wrap64 (i + impl_delta.long sz rs wk.length (wrap64 (x.f2 + x.f3))), impl_delta.set l ⟨x.f0, x.f1, x.f2, wrap64 (x.f3 + 1)⟩)
  else
    let q := impl_delta.seek F wk full rest i
    if q ≥ 0 then (wrap64 (i + impl_delta.long sz rs wk.length q), l ++ [⟨1, (⟨#[]⟩ : ByteArray), q, 1⟩])
    else if l ≠ [] ∧ x.f0 = 0 ∧ x.f1.size < 100 then (wrap64 (i + 1), impl_delta.set l ⟨x.f0, x.f1 ++ s.extract i.toNat (wrap64 (i + 1)).toNat, x.f2, x.f3⟩)
    else (wrap64 (i + 1), l ++ [⟨0, s.extract i.toNat (wrap64 (i + 1)).toNat, 0, 0⟩])
def impl_delta.run (sz rs : Int) (wk : List Int) (st : List ByteArray) (sd : Int) (s : ByteArray) (full rest : List Int) : Nat → Int → List S94 → List S94
  | 0, _, l => l
  | d + 1, i, l => if i < (s.size : Int) then impl_delta.run sz rs wk st sd s full rest d (impl_delta.step sz rs wk st sd s full rest i l).1 (impl_delta.step sz rs wk st sd s full rest i l).2 else l
/-- What the walk asks: a right signature, a word as seed, the lists' lengths. -/
def impl_delta.ok (sz rs : Int) (wk : List Int) (st : List ByteArray) (sd : Int) (s : ByteArray) (full rest : List Int) : Bool :=
  decide (1 ≤ sz ∧ sz ≤ 256 ∧ 0 ≤ rs ∧ rs < sz ∧ wk.length ≤ 2500 ∧ wk.length = st.length ∧ (0 ≤ sd ∧ sd < 4294967296) ∧ s.size ≤ 20000 ∧ (full = [] ∨ (full.length : Int) + sz ≤ s.size + 1) ∧ (rest = [] ∨ (rest.length : Int) + rs ≤ s.size + 1)) && (wk ++ (full ++ rest)).all fun x => decide (0 ≤ x ∧ x < 4294967296)
def impl_delta.f (k : Nat) (a0_0 : Int) (a0_1 : Int) (l0_2 : List Int) (l0_3 : List ByteArray) (a1 : Int) (a2 : ByteArray) : Option (List S94) :=
  (impl_weakAll.f k a2 a0_0).bind fun full => (impl_weakAll.f k a2 a0_1).bind fun rest => if impl_delta.ok a0_0 a0_1 l0_2 l0_3 a1 a2 full rest = true then some (impl_delta.run a0_0 a0_1 l0_2 l0_3 a1 a2 full rest a2.size 0 []) else none
theorem impl_delta.mono : ∀ a0 a1 a2 a3 a4 a5 k, LeO (impl_delta.f k a0 a1 a2 a3 a4 a5) (impl_delta.f (k + 1) a0 a1 a2 a3 a4 a5) := by
  intro a0 a1 a2 a3 a4 a5 k
  unfold impl_delta.f
  exact LeO.bind (impl_weakAll.mono _ _ _) (fun _ => LeO.bind (impl_weakAll.mono _ _ _) (fun _ => LeO.refl _))
theorem impl_delta.law22 : Maps.Keyed Tryd.prog 22 := Maps.int_keyed Tryd.underlying22
theorem impl_delta.z104 (w : World) : (zeroValue 104).run Tryd.prog w = .ok (.slice none 0 0) w := by kernel_rfl
theorem impl_delta.i3 : (Tryd.prog.info? 3).map (fun i => (i.zero, i.size, i.bytes)) = some (some (.int .i64 0), 1, 8) := by kernel_rfl
theorem impl_delta.i94 : (Tryd.prog.info? 94).map (fun i => (i.zero, i.size, i.bytes)) = some (some (.agg #[(.int .i64 0), (.string ⟨#[]⟩), (.int .i64 0), (.int .i64 0)]), 4, 40) := by kernel_rfl
/-- What stands in the map at a key: nothing, or the places. -/
def impl_delta.rowD (l : List Int) : DataW Unit := if l = [] then .nil else .slice (ChangeShapes.lits .i64 l) []
theorem impl_delta.lits_inj : ∀ {a b : List Int}, (ChangeShapes.lits .i64 a : List (DataW Unit)) = ChangeShapes.lits .i64 b → a = b
  | [], [], _ => rfl
  | [], _ :: _, h => by simp [ChangeShapes.lits] at h
  | _ :: _, [], h => by simp [ChangeShapes.lits] at h
  | x :: a, y :: b, h => by
    simp only [ChangeShapes.lits, List.map_cons, List.cons.injEq] at h
    obtain ⟨h1, h2⟩ := h
    have h3 : x = y := by injection h1 with h1; injection h1
    rw [h3, impl_delta.lits_inj h2]
theorem impl_delta.rowD_inj {w : World} {base : Nat} {v : Value} {zs l : List Int} (ho : w.ownsInts base 3 .i64 v zs) (h : impl_delta.rowD l = rowDatum .i64 v zs) : zs = l := by
  unfold impl_delta.rowD at h
  rcases ho with ⟨⟨h1, h2⟩, h3⟩
  rcases h2 with ⟨rfl, h0⟩ | ⟨g, cap, cur, rfl, _⟩
  · have hz : zs = [] := List.length_eq_zero_iff.1 h0
    subst hz
    by_cases hl : l = []
    · exact hl.symm
    · rw [if_neg hl] at h
      simp [rowDatum] at h
  · by_cases hl : l = []
    · rw [if_pos hl] at h
      simp [rowDatum] at h
    · rw [if_neg hl] at h
      have h4 : (DataW.slice (ChangeShapes.lits .i64 l) [] : DataW Unit) = .slice (ChangeShapes.lits .i64 zs) [] := h
      injection h4 with h5
      exact (impl_delta.lits_inj h5).symm
theorem impl_delta.idx_succ (wk : List Int) (x : Int) (n : Nat) : impl_delta.idx wk x (n + 1) = if wk.getD n 0 = x then impl_delta.idx wk x n ++ [(n : Int)] else impl_delta.idx wk x n := by
  unfold impl_delta.idx
  rw [List.range_succ, List.filter_append, List.map_append]
  by_cases h : wk.getD n 0 = x
  · rw [if_pos h]; congr 1; simp only [List.filter_cons, List.filter_nil, beq_iff_eq.mpr h, if_true]; rfl
  · rw [if_neg h]; simp only [List.filter_cons, List.filter_nil, beq_eq_false_iff_ne.mpr h, Bool.false_eq_true, if_false, List.map_nil, List.append_nil]
/-- The map behind the first n blocks. -/
def impl_delta.Mp (wk : List Int) (n : Nat) (D : DataW Unit) : Prop := ∀ x : Int, D.atKey (.int .u32 x) .nil = impl_delta.rowD (impl_delta.idx wk x n)
/-- A block of a finder: its cells; what its rows and its map hold. -/
def impl_delta.Fin (w : World) (g : Nat) (sz rs : Int) (A2 : Option Addr) (c2 : Nat) (wk : List Int) (A3 : Option Addr) (c3 : Nat) (st : List ByteArray) (sd : Int) (s : ByteArray) (full rest : List Int) : Prop :=
  ∃ Af cf Ar cr b, w.heap[g]? = some (.cells #[.int .i64 sz, .int .i64 rs, .slice A2 wk.length c2, .slice A3 st.length c3, .int .u32 sd, .string s, .slice Af full.length cf, .slice Ar rest.length cr, .map (some b)] 127 (0, 0)) ∧
    Kd.C (Kd.int .u32) w Af full.length full ∧ full.length ≤ cf ∧ Kd.C (Kd.int .u32) w Ar rest.length rest ∧ rest.length ≤ cr ∧ ∃ D, w.ownsGroups Tryd.prog 22 (b + 1) 3 .i64 b wk.length D ∧ impl_delta.Mp wk wk.length D
theorem impl_delta.Fin_below {w w' : World} {g : Nat} {sz rs : Int} {A2 : Option Addr} {c2 : Nat} {wk : List Int} {A3 : Option Addr} {c3 : Nat} {st : List ByteArray} {sd : Int} {s : ByteArray} {full rest : List Int}
    (h : impl_delta.Fin w g sz rs A2 c2 wk A3 c3 st sd s full rest) (hb : Below w.heap.size w w') : impl_delta.Fin w' g sz rs A2 c2 wk A3 c3 st sd s full rest := by
  obtain ⟨Af, cf, Ar, cr, b, h1, h2, h3, h4, h5, D, h6, h7⟩ := h
  refine ⟨Af, cf, Ar, cr, b, (hb.block g (blk_lt h1)).trans h1, Kd.C_below h2 hb, h3, Kd.C_below h4 hb, h5, D, h6.kept (row := none) ⟨hb.os, hb.tape, hb.output, hb.size, fun i hi _ => hb.block i hi⟩ (by simp) (fun es clock _ x _ => ?_), h7⟩
  cases x.val.ownBlock <;> simp
theorem impl_delta.row4 {w : World} {g t : Nat} {x0 x1 x2 x3 : Value} (h : w.heap[g]? = some (.cells #[x0, x1, x2, x3] t (0, 0))) :
    w.cell? ⟨g, 0, none⟩ = some x0 ∧ w.cell? ⟨g, 1, none⟩ = some x1 ∧ w.cell? ⟨g, 2, none⟩ = some x2 ∧ w.cell? ⟨g, 3, none⟩ = some x3 := by
  simp [World.cell?, h]
theorem impl_delta.map_lt {w : World} {b : Nat} {o : Obj} (h : w.heap[b]? = some o) : b < w.heap.size := (Array.getElem?_eq_some_iff.1 h).1
theorem impl_delta.map_step {P : Program} {ops : Array Oper} {o : Oper} {a : Act} {Q : Exit → Act → World → Prop} {Kc : Act → World → Prop} {N : Tmp} {W : World} (hw : Region.wanted o (yielded ops a.tmps) = true) (hN : o.dst = some N)
    (hrun : (execOp a.eval o).run P W = .ok (.value (.map (some W.heap.size))) (W.alloc (.map #[] 0)))
    (h : ∀ b w1, b = W.heap.size → w1.heap[b]? = some (.map #[] 0) → Below W.heap.size W w1 → Kc (a.put (some N) (.map (some b))) w1) : if Region.wanted o (yielded ops a.tmps) = true then Oper.wp P o a W Kc Q else Kc (a.put (some N) undef) W := by
  rw [← hN]
  exact event_step hw hrun (by rw [hN]; exact h _ _ rfl (MapKept.heap_alloc W _).1 (below_alloc (Below.refl _ _) _))
theorem impl_delta.skip_step {P : Program} {ops : Array Oper} {o : Oper} {a : Act} {Q : Exit → Act → World → Prop} {Kc : Act → World → Prop} {W w1 : World} (hw : Region.wanted o (yielded ops a.tmps) = true) (hN : o.dst = none) (hrun : (execOp a.eval o).run P W = .ok .skip w1) (h : Kc (a.put none undef) w1) : if Region.wanted o (yielded ops a.tmps) = true then Oper.wp P o a W Kc Q else Kc (a.put none undef) W := by
  rw [if_pos hw]
  unfold Oper.wp
  rw [hrun, Oper.upon_skip, hN]
  exact h
theorem impl_delta.wf_snoc {zs : List Int} {i : Int} (h : ∀ z ∈ zs, (Lit.int .i64 z).wf = true) (hi : (Lit.int .i64 i).wf = true) : ∀ z ∈ zs ++ [i], (Lit.int .i64 z).wf = true := fun z hz => by
  rcases List.mem_append.1 hz with h1 | h1
  · exact h z h1
  · rw [List.mem_singleton.1 h1]; exact hi
theorem impl_delta.wfN {i : Nat} (h : i ≤ 2500) : (Lit.int .i64 (i : Int)).wf = true := by
  simp [Lit.wf, IntKind.min, IntKind.max, IntKind.signed, IntKind.bits]; omega
theorem impl_delta.wfU {x : Int} (h : 0 ≤ x ∧ x < 4294967296) : (Lit.int .u32 x).wf = true := by
  simp [Lit.wf, IntKind.min, IntKind.max, IntKind.signed, IntKind.bits]; omega
/-- No two of a map's entries have one key. -/
theorem impl_delta.one_key {l : List MapEntry} (h : l.Pairwise (fun x y => x.key ≠ y.key)) : ∀ {x y : MapEntry}, x ∈ l → y ∈ l → x.key = y.key → x = y := by
  induction l with
  | nil => intro x y hx; cases hx
  | cons a l ih =>
    rw [List.pairwise_cons] at h
    intro x y hx hy he
    rcases List.mem_cons.1 hx with hx1 | hx1 <;> rcases List.mem_cons.1 hy with hy1 | hy1
    · rw [hx1, hy1]
    · exact absurd (by rw [← hx1]; exact he) (h.1 y hy1)
    · exact absurd (by rw [← hy1]; exact he.symm) (h.1 x hx1)
    · exact ih h.2 hx1 hy1 he
/-- A look-up in a map of rows: what it gives in every world that has the map as it is here. -/
theorem impl_delta.stable {w : World} {base b n : Nat} {D : DataW Unit} (h : w.ownsGroups Tryd.prog 22 base 3 .i64 b n D) (hn : n < maxLen) (x : Int) (hx : 0 ≤ x ∧ x < 4294967296) :
    ∃ v zs, (∀ w' : World, w'.heap[b]? = w.heap[b]? → (Instr.lookup 125 (.map (some b)) (.int .u32 x) false).run Tryd.prog w' = .ok v w') ∧ D.atKey (.int .u32 x) .nil = rowDatum .i64 v zs ∧ w.ownsInts base 3 .i64 v zs ∧ zs.length ≤ n ∧ w.groupBack Tryd.prog 125 22 base 3 .i64 b n D (.int .u32 x) (.int .u32 x) v := by
  have hkey := Maps.keyOf_int_mk (P := Tryd.prog) Tryd.underlying22 (impl_delta.wfU hx)
  obtain ⟨v, zs, hrun, hat, hoi, hzl, hback⟩ := h.at impl_delta.law22 Tryd.underlying125 (impl_delta.z104 w) hn hkey
  refine ⟨v, zs, fun w' hb' => ?_, hat, hoi, hzl, hback⟩
  obtain ⟨es, clock, hb, F, _⟩ := h
  have hone := ((MapKept.stamped_iff es clock).1 F.stamped).2.2
  rcases Maps.fit_look false impl_delta.law22 Tryd.underlying125 (impl_delta.z104 w) hb F hkey with ⟨h1, h2, _⟩ | ⟨e0, y, hm0, h3, h1, _⟩
  · have hv : v = .slice none 0 0 := by
      have := hrun.symm.trans h1
      simpa using this
    rcases Maps.fit_look false impl_delta.law22 Tryd.underlying125 (impl_delta.z104 w') (hb'.trans hb) F hkey with ⟨h4, _⟩ | ⟨e1, _, hm1, h5, _⟩
    · rw [hv]; simpa using h4
    · exact absurd h5 (h2 e1 hm1)
  · have hv : v = e0.val := by
      have := hrun.symm.trans h1
      simpa using this
    rcases Maps.fit_look false impl_delta.law22 Tryd.underlying125 (impl_delta.z104 w') (hb'.trans hb) F hkey with ⟨_, h4, _⟩ | ⟨e1, _, hm1, h5, h6, _⟩
    · exact absurd h3 (h4 e0 hm0)
    · obtain rfl := impl_delta.one_key hone hm0 hm1 (h3.trans h5.symm)
      rw [hv]; simpa using h6
theorem impl_delta.keepM {w w1 : World} {base b : Nat} {ok : Nat → Prop} {v : Value} {xs : List Int} {es : Array MapEntry} {clock : Nat} (h : (Kd.int .u32).R 22 w base ok v xs) (hm : w.heap[b]? = some (.map es clock)) (hg : w.grownBy w1 (some b)) : (Kd.int .u32).R 22 w1 base ok v xs :=
  Kd.R_mono (Kd.R_grown (Kd.R_bound h) hg (fun k hk e => by
    obtain ⟨_, _, _, q, _, cells, hc⟩ := hk
    injection e with e
    subst e
    rw [hc] at hm
    cases hm)) (fun _ hk => hk.1)
theorem impl_delta.Mp_put {w w6 : World} {base b i : Nat} {wk zs : List Int} {D : DataW Unit} {x : Int} {v1 : Value} (h : impl_delta.Mp wk i D) (hown : w.ownsGroups Tryd.prog 22 base 3 .i64 b i D) (hx : wk.getD i 0 = x) (hz : zs = impl_delta.idx wk x i)
    (hown1 : w6.ownsInts base 3 .i64 v1 (zs ++ [(i : Int)])) : impl_delta.Mp wk (i + 1) (D.put (.int .u32 x) (rowDatum .i64 v1 (zs ++ [(i : Int)]))) := fun y => by
  have hD : Maps.IsMap D := by
    obtain ⟨es, clock, _, _, _, rfl, _⟩ := hown
    exact ⟨_, rfl⟩
  rw [impl_delta.idx_succ]
  by_cases e : x = y
  · subst e
    rw [if_pos hx, hown1.datum_pos (by simp), Maps.atKey_put_same hD (show WideAt.IsKeyLit (Lit.int .u32 x) from trivial), hz]
    unfold impl_delta.rowD
    rw [if_neg (by simp)]
  · rw [if_neg (by rw [hx]; exact e), Maps.atKey_put_other (fun e2 => e (by injection e2 with _ e3; exact e3.symm)), h y]
def impl_delta.T100_1 : Bool × List (List Nat × List Nat) := (true, [([], []), ([], []), ([], []), ([], []), ([], []), ([4], [4]), ([3, 5], [3, 5]), ([], []), ([], []), ([8], [8]), ([7, 9, 6], [7, 9]), ([], []), ([0, 1, 2, 6, 10, 11], [0, 1, 2, 6, 10, 11]), ([12], [12]), ([13, 10, 0, 1, 2, 3, 4, 5, 6, 7, 8, 9, 10, 11, 12, 13], [13])])
def impl_delta.B100_1 : List Nat := [0, 0, 0, 0, 0, 16, 56, 0, 0, 256, 1016, 0, 4095, 8191, 16383]
theorem impl_delta.tab100_1 : rtab .any (opsOf Tryd.f100 1) = impl_delta.T100_1 := by kernel_rfl
theorem impl_delta.bits100_1 : waitsOk impl_delta.T100_1.2 impl_delta.B100_1 = true := by kernel_rfl
def impl_delta.T100_5 : Bool × List (List Nat × List Nat) := (true, [([], []), ([0], [0]), ([1], [1]), ([2], [2]), ([], []), ([], []), ([5], [5]), ([6], [6]), ([7], [7]), ([], []), ([8, 9], [8, 9]), ([], []), ([11], [11]), ([10, 12], [10, 12]), ([3, 4, 13, 13, 0, 1, 2, 3, 4, 5, 6, 7, 8, 9, 10, 11, 12, 13], [3, 4, 13])])
def impl_delta.B100_5 : List Nat := [0, 1, 3, 7, 0, 0, 32, 96, 224, 0, 992, 0, 2048, 8160, 16383]
theorem impl_delta.tab100_5 : rtab .any (opsOf Tryd.f100 5) = impl_delta.T100_5 := by kernel_rfl
theorem impl_delta.bits100_5 : waitsOk impl_delta.T100_5.2 impl_delta.B100_5 = true := by kernel_rfl
set_option maxHeartbeats 8000000 in
set_option maxRecDepth 100000 in
theorem impl_delta.newF (k : Nat) (sz rs : Int) (A2 : Option Addr) (c2 : Nat) (wk : List Int) (A3 : Option Addr) (c3 : Nat) (st : List ByteArray) (sd : Int) (s : ByteArray) (full rest : List Int) (w : World)
    (hr2 : Kd.C (Kd.int .u32) w A2 wk.length wk) (hlen : wk.length ≤ 2500) (hwk : ∀ x ∈ wk, 0 ≤ x ∧ x < 4294967296) (hf : impl_weakAll.f k s sz = some full) (hr : impl_weakAll.f k s rs = some rest) :
    Calls Tryd.prog 100 #[.agg #[.int .i64 sz, .int .i64 rs, .slice A2 wk.length c2, .slice A3 st.length c3], .int .u32 sd, .string s] w fun e w' => ∃ g, e = .returned (.pointer (some ⟨g, 0, none⟩)) ∧ w.heap.size ≤ g ∧ impl_delta.Fin w' g sz rs A2 c2 wk A3 c3 st sd s full rest ∧ Below w.heap.size w w' := by
  have HR2 := Aside0.mk hr2
  have HF := Aside0.mk hf
  have HR := Aside0.mk hr
  have HW := Aside0.mk hwk
  clear hr2 hf hr hwk
  go_enter Tryd.func100, Tryd.ntmps100
  go_upto_region 1 with fail
  have B3 := Aside0.mk (blk_new w (.cells #[.int .i64 sz, .int .i64 rs, .slice A2 wk.length c2, .slice A3 st.length c3] 39 (0, 0)))
  have HB := Aside0.mk (below_alloc (Below.refl w.heap.size w) (.cells #[.int .i64 sz, .int .i64 rs, .slice A2 wk.length c2, .slice A3 st.length c3] 39 (0, 0)))
  generalize w.alloc _ = W1 at B3 HB ⊢
  obtain ⟨y0, y1, y2, y3⟩ := impl_delta.row4 B3.out
  go_cut [7] (fun v7 wc => ∃ (g b : Nat) (Af : Option Addr) (cf : Nat) (Ar : Option Addr) (cr : Nat), v7 = .pointer (some ⟨g, 0, none⟩) ∧ Aside0 (W1.heap.size ≤ g) ∧ Aside0 (W1.heap.size ≤ b) ∧ Aside0 (wc.heap[g]? = some (.cells #[.int .i64 sz, .int .i64 rs, .slice A2 wk.length c2, .slice A3 st.length c3, .int .u32 sd, .string s, .slice Af full.length cf, .slice Ar rest.length cr, .map (some b)] 127 (0, 0))) ∧ Aside0 (Kd.R (Kd.int .u32) 22 wc W1.heap.size (fun _ => True) (.slice Af full.length cf) full) ∧ Aside0 (Kd.R (Kd.int .u32) 22 wc W1.heap.size (fun _ => True) (.slice Ar rest.length cr) rest) ∧ Aside0 (wc.heap[b]? = some (.map #[] 0)) ∧ Aside0 (Below W1.heap.size W1 wc))
  case first =>
    refine start_ (n := 15) (S := fun w' => w'.cell? ⟨w.heap.size, 0, none⟩ = some (.int .i64 sz) ∧ w'.cell? ⟨w.heap.size, 1, none⟩ = some (.int .i64 rs) ∧ w'.cell? ⟨w.heap.size, 2, none⟩ = some (.slice A2 wk.length c2) ∧ w'.cell? ⟨w.heap.size, 3, none⟩ = some (.slice A3 st.length c3)) (ds := []) (bm 15 0) (by kernel_rfl) rfl rfl ⟨y0, y1, y2, y3⟩ (fun hHeld => ?_); refine with_tabW impl_delta.tab100_1 impl_delta.bits100_1 (fun HT_ HW_ => ?_)
    have HBr := Aside0.mk (below_drew (Below.refl W1.heap.size W1))
    generalize W1.drew = wd at HBr hHeld ⊢
    refine pure_ (i := 1) (N := some 11) (v := ?_) (a' := ?_) (bm 15 2) rfl rfl (any_of HT_.out (by kernel_rfl)) (fun _ _ _ h => h) (Or.inl ⟨by rfl, ?_⟩) ?_ ?_; rotate_left; · (intro w'; go_simp; with_reducible rfl)
    rotate_left; · (simp only [Act.put, q1, q2, q3, q4, q5, q6, q7]; rfl)
    refine pure_ (i := 2) (N := some 12) (v := ?_) (a' := ?_) (bm 15 6) rfl rfl (any_of HT_.out (by kernel_rfl)) (fun _ _ _ h => h) (Or.inl ⟨by rfl, ?_⟩) ?_ ?_; rotate_left; · (intro w'; go_simp; with_reducible rfl)
    rotate_left; · (simp only [Act.put, q1, q2, q3, q4, q5, q6, q7]; rfl)
    refine pure_ (i := 3) (N := some 13) (v := ?_) (a' := ?_) (bm 15 14) rfl rfl (any_of HT_.out (by kernel_rfl)) (fun _ _ _ h => h) (Or.inl ⟨by rfl, ?_⟩) ?_ ?_; rotate_left; · (intro w'; go_simp; with_reducible rfl)
    rotate_left; · (simp only [Act.put, q1, q2, q3, q4, q5, q6, q7]; rfl)
    refine pure_ (i := 4) (N := some 14) (v := ?_) (a' := ?_) (bm 15 30) rfl rfl (any_of HT_.out (by kernel_rfl)) (fun _ _ _ h => h) (Or.inl ⟨by rfl, ?_⟩) ?_ ?_; rotate_left; · (intro w'; go_simp; with_reducible rfl)
    rotate_left; · (simp only [Act.put, q1, q2, q3, q4, q5, q6, q7]; rfl)
    refine pure_ (i := 7) (N := some 17) (v := ?_) (a' := ?_) (bm 15 158) rfl rfl (any_of HT_.out (by kernel_rfl)) (fun _ _ _ h => h) (Or.inl ⟨by rfl, ?_⟩) ?_ ?_; rotate_left; · (intro w'; go_simp; with_reducible rfl)
    rotate_left; · (simp only [Act.put, q1, q2, q3, q4, q5, q6, q7]; rfl)
    refine pure_ (i := 8) (N := some 18) (v := ?_) (a' := ?_) (bm 15 414) rfl rfl (any_of HT_.out (by kernel_rfl)) (fun _ _ _ h => h) (Or.inl ⟨by rfl, ?_⟩) ?_ ?_; rotate_left; · (intro w'; go_simp; with_reducible rfl)
    rotate_left; · (simp only [Act.put, q1, q2, q3, q4, q5, q6, q7]; rfl)
    refine take_ (i := 0) (N := some 10) (v := ?_) (a' := ?_) (bm 15 415) rfl rfl (take_ofW HT_.out HW_.out (by kernel_rfl)) (fun _ _ _ h => h) (Or.inl ⟨by rfl, ?_⟩) hHeld ?_ ?_; rotate_left; · (rintro w' ⟨s0, s1, s2, s3⟩; go_simp; with_reducible rfl)
    rotate_left; · (simp only [Act.put, q1, q2, q3, q4, q5, q6, q7]; rfl)
    refine take_ (i := 5) (N := some 15) (v := ?_) (a' := ?_) (bm 15 447) rfl rfl (take_ofW HT_.out HW_.out (by kernel_rfl)) (fun _ _ _ h => h) (Or.inl ⟨by rfl, ?_⟩) hHeld ?_ ?_; rotate_left; · (rintro w' ⟨s0, s1, s2, s3⟩; go_simp; with_reducible rfl)
    rotate_left; · (simp only [Act.put, q1, q2, q3, q4, q5, q6, q7]; rfl)
    refine take_ (i := 9) (N := some 19) (v := ?_) (a' := ?_) (bm 15 959) rfl rfl (take_ofW HT_.out HW_.out (by kernel_rfl)) (fun _ _ _ h => h) (Or.inl ⟨by rfl, ?_⟩) hHeld ?_ ?_; rotate_left; · (rintro w' ⟨s0, s1, s2, s3⟩; go_simp; with_reducible rfl)
    rotate_left; · (simp only [Act.put, q1, q2, q3, q4, q5, q6, q7]; rfl)
    refine join_ (σ := (Option Addr × Nat) × (Option Addr × Nat) × Nat) 3 (bm 15 4095) (fun s_ => [(16, .slice s_.1.1 full.length s_.1.2), (20, .slice s_.2.1.1 rest.length s_.2.1.2), (21, .map (some s_.2.2))]) (fun s_ w' => Kd.R (Kd.int .u32) 22 w' W1.heap.size (fun _ => True) (.slice s_.1.1 full.length s_.1.2) full ∧ Kd.R (Kd.int .u32) 22 w' W1.heap.size (fun _ => True) (.slice s_.2.1.1 rest.length s_.2.1.2) rest ∧ w'.heap[s_.2.2]? = some (.map #[] 0) ∧ W1.heap.size ≤ s_.2.2 ∧ Below W1.heap.size W1 w') ?_ ?_
    rotate_left
    · intro hCont
      refine two_ (i := 6) (j := 11) (Ni := some 16) (Nj := some 21) (bm 15 1023) (bm 15 3007) rfl rfl rfl rfl (two_of HT_.out (by kernel_rfl)) (by decide) (by decide) (fun K hK => ?_) (fun K hK => ?_)
      · refine goes_ Tryd.func111 (by kernel_rfl) rfl #[.string s, .int .i64 sz] (by rfl) rfl rfl (by (try simp only [List.map_toArray, List.map_cons, List.map_nil]); first | done | rfl) ?_
        with_reducible refine (impl_weakAll.calls k s sz full _ HF.out).mono ?_
        rintro e w6 ⟨vf, rfl, hR, hb⟩
        refine ⟨_, rfl, ?_⟩
        have F6 := Aside0.mk (Kd.R_lower hR HBr.out.size)
        try (have n0_ := Aside0.mk (Kd.R_below F10.out hb); clear F10; have F10 := n0_; clear n0_)
        try (have n0_ := Aside0.mk ((hb.block b (impl_delta.map_lt F11.out)).trans F11.out); clear F11; have F11 := n0_; clear n0_)
        have n0_ := Aside0.mk (below_step HBr.out hb)
        clear HBr hb hR
        have HBr := n0_
        clear n0_
        obtain ⟨Af, cf, rfl⟩ := Kd.R_slice F6.out
        refine hK.out _ _ ⟨pw_cell_below HBr.out y0, pw_cell_below HBr.out y1, pw_cell_below HBr.out y2, pw_cell_below HBr.out y3⟩ (fun hHeld => ?_)
        clear hK K
        refine norm_ (a' := ?_) ?_ ?_
        rotate_left
        · (show Act.put _ (some 16) _ = _; simp only [Act.put, q1, q2, q3, q4, q5, q6, q7]; rfl)
        refine two_ (i := 10) (j := 11) (Ni := some 20) (Nj := some 21) (bm 15 2047) (bm 15 3071) rfl rfl rfl rfl (two_of HT_.out (by kernel_rfl)) (by decide) (by decide) (fun K hK => ?_) (fun K hK => ?_)
        · refine goes_ Tryd.func111 (by kernel_rfl) rfl #[.string s, .int .i64 rs] (by rfl) rfl rfl (by (try simp only [List.map_toArray, List.map_cons, List.map_nil]); first | done | rfl) ?_
          with_reducible refine (impl_weakAll.calls k s rs rest _ HR.out).mono ?_
          rintro e w6 ⟨vr, rfl, hR, hb⟩
          refine ⟨_, rfl, ?_⟩
          have F10 := Aside0.mk (Kd.R_lower hR HBr.out.size)
          try (have n0_ := Aside0.mk (Kd.R_below F6.out hb); clear F6; have F6 := n0_; clear n0_)
          try (have n0_ := Aside0.mk ((hb.block b (impl_delta.map_lt F11.out)).trans F11.out); clear F11; have F11 := n0_; clear n0_)
          have n0_ := Aside0.mk (below_step HBr.out hb)
          clear HBr hb hR
          have HBr := n0_
          clear n0_
          obtain ⟨Ar, cr, rfl⟩ := Kd.R_slice F10.out
          refine hK.out _ _ ⟨pw_cell_below HBr.out y0, pw_cell_below HBr.out y1, pw_cell_below HBr.out y2, pw_cell_below HBr.out y3⟩ (fun hHeld => ?_)
          clear hK K
          refine norm_ (a' := ?_) ?_ ?_
          rotate_left
          · (show Act.put _ (some 20) _ = _; simp only [Act.put, q1, q2, q3, q4, q5, q6, q7]; rfl)
          refine one_ (i := 11) (N := some 21) (bm 15 4095) rfl rfl (one_of HT_.out (by kernel_rfl)) (by decide) (fun K hK => ?_)
          refine impl_delta.map_step rfl rfl (by first | rfl | (go_simp; rfl)) ?_
          intro b w6 hbe hbm hb
          have F11 := Aside0.mk hbm
          have G11 : W1.heap.size ≤ b := by rw [hbe]; exact HBr.out.size
          try (have n0_ := Aside0.mk (Kd.R_below F6.out hb); clear F6; have F6 := n0_; clear n0_)
          try (have n0_ := Aside0.mk (Kd.R_below F10.out hb); clear F10; have F10 := n0_; clear n0_)
          have n0_ := Aside0.mk (below_step HBr.out hb)
          clear HBr hb hbe hbm
          have HBr := n0_
          clear n0_
          refine hK.out _ _ ⟨pw_cell_below HBr.out y0, pw_cell_below HBr.out y1, pw_cell_below HBr.out y2, pw_cell_below HBr.out y3⟩ (fun hHeld => ?_)
          clear hK K
          refine norm_ (a' := ?_) ?_ ?_
          rotate_left
          · (show Act.put _ (some 21) _ = _; simp only [Act.put, q1, q2, q3, q4, q5, q6, q7]; rfl)
          exact norm_ (by simp only [putAll, Act.put, q1, q2, q3]) (hCont ((Af, cf), (Ar, cr), b) _ ⟨F6.out, F10.out, F11.out, G11, HBr.out⟩)
        · refine impl_delta.map_step rfl rfl (by first | rfl | (go_simp; rfl)) ?_
          intro b w6 hbe hbm hb
          have F11 := Aside0.mk hbm
          have G11 : W1.heap.size ≤ b := by rw [hbe]; exact HBr.out.size
          try (have n0_ := Aside0.mk (Kd.R_below F6.out hb); clear F6; have F6 := n0_; clear n0_)
          try (have n0_ := Aside0.mk (Kd.R_below F10.out hb); clear F10; have F10 := n0_; clear n0_)
          have n0_ := Aside0.mk (below_step HBr.out hb)
          clear HBr hb hbe hbm
          have HBr := n0_
          clear n0_
          refine hK.out _ _ ⟨pw_cell_below HBr.out y0, pw_cell_below HBr.out y1, pw_cell_below HBr.out y2, pw_cell_below HBr.out y3⟩ (fun hHeld => ?_)
          clear hK K
          refine norm_ (a' := ?_) ?_ ?_
          rotate_left
          · (show Act.put _ (some 21) _ = _; simp only [Act.put, q1, q2, q3, q4, q5, q6, q7]; rfl)
          refine one_ (i := 10) (N := some 20) (bm 15 4095) rfl rfl (one_of HT_.out (by kernel_rfl)) (by decide) (fun K hK => ?_)
          refine goes_ Tryd.func111 (by kernel_rfl) rfl #[.string s, .int .i64 rs] (by rfl) rfl rfl (by (try simp only [List.map_toArray, List.map_cons, List.map_nil]); first | done | rfl) ?_
          with_reducible refine (impl_weakAll.calls k s rs rest _ HR.out).mono ?_
          rintro e w6 ⟨vr, rfl, hR, hb⟩
          refine ⟨_, rfl, ?_⟩
          have F10 := Aside0.mk (Kd.R_lower hR HBr.out.size)
          try (have n0_ := Aside0.mk (Kd.R_below F6.out hb); clear F6; have F6 := n0_; clear n0_)
          try (have n0_ := Aside0.mk ((hb.block b (impl_delta.map_lt F11.out)).trans F11.out); clear F11; have F11 := n0_; clear n0_)
          have n0_ := Aside0.mk (below_step HBr.out hb)
          clear HBr hb hR
          have HBr := n0_
          clear n0_
          obtain ⟨Ar, cr, rfl⟩ := Kd.R_slice F10.out
          refine hK.out _ _ ⟨pw_cell_below HBr.out y0, pw_cell_below HBr.out y1, pw_cell_below HBr.out y2, pw_cell_below HBr.out y3⟩ (fun hHeld => ?_)
          clear hK K
          refine norm_ (a' := ?_) ?_ ?_
          rotate_left
          · (show Act.put _ (some 20) _ = _; simp only [Act.put, q1, q2, q3, q4, q5, q6, q7]; rfl)
          exact norm_ (by simp only [putAll, Act.put, q1, q2, q3]) (hCont ((Af, cf), (Ar, cr), b) _ ⟨F6.out, F10.out, F11.out, G11, HBr.out⟩)
      · refine impl_delta.map_step rfl rfl (by first | rfl | (go_simp; rfl)) ?_
        intro b w6 hbe hbm hb
        have F11 := Aside0.mk hbm
        have G11 : W1.heap.size ≤ b := by rw [hbe]; exact HBr.out.size
        try (have n0_ := Aside0.mk (Kd.R_below F6.out hb); clear F6; have F6 := n0_; clear n0_)
        try (have n0_ := Aside0.mk (Kd.R_below F10.out hb); clear F10; have F10 := n0_; clear n0_)
        have n0_ := Aside0.mk (below_step HBr.out hb)
        clear HBr hb hbe hbm
        have HBr := n0_
        clear n0_
        refine hK.out _ _ ⟨pw_cell_below HBr.out y0, pw_cell_below HBr.out y1, pw_cell_below HBr.out y2, pw_cell_below HBr.out y3⟩ (fun hHeld => ?_)
        clear hK K
        refine norm_ (a' := ?_) ?_ ?_
        rotate_left
        · (show Act.put _ (some 21) _ = _; simp only [Act.put, q1, q2, q3, q4, q5, q6, q7]; rfl)
        refine one_ (i := 6) (N := some 16) (bm 15 3071) rfl rfl (one_of HT_.out (by kernel_rfl)) (by decide) (fun K hK => ?_)
        refine goes_ Tryd.func111 (by kernel_rfl) rfl #[.string s, .int .i64 sz] (by rfl) rfl rfl (by (try simp only [List.map_toArray, List.map_cons, List.map_nil]); first | done | rfl) ?_
        with_reducible refine (impl_weakAll.calls k s sz full _ HF.out).mono ?_
        rintro e w6 ⟨vf, rfl, hR, hb⟩
        refine ⟨_, rfl, ?_⟩
        have F6 := Aside0.mk (Kd.R_lower hR HBr.out.size)
        try (have n0_ := Aside0.mk (Kd.R_below F10.out hb); clear F10; have F10 := n0_; clear n0_)
        try (have n0_ := Aside0.mk ((hb.block b (impl_delta.map_lt F11.out)).trans F11.out); clear F11; have F11 := n0_; clear n0_)
        have n0_ := Aside0.mk (below_step HBr.out hb)
        clear HBr hb hR
        have HBr := n0_
        clear n0_
        obtain ⟨Af, cf, rfl⟩ := Kd.R_slice F6.out
        refine hK.out _ _ ⟨pw_cell_below HBr.out y0, pw_cell_below HBr.out y1, pw_cell_below HBr.out y2, pw_cell_below HBr.out y3⟩ (fun hHeld => ?_)
        clear hK K
        refine norm_ (a' := ?_) ?_ ?_
        rotate_left
        · (show Act.put _ (some 16) _ = _; simp only [Act.put, q1, q2, q3, q4, q5, q6, q7]; rfl)
        refine one_ (i := 10) (N := some 20) (bm 15 4095) rfl rfl (one_of HT_.out (by kernel_rfl)) (by decide) (fun K hK => ?_)
        refine goes_ Tryd.func111 (by kernel_rfl) rfl #[.string s, .int .i64 rs] (by rfl) rfl rfl (by (try simp only [List.map_toArray, List.map_cons, List.map_nil]); first | done | rfl) ?_
        with_reducible refine (impl_weakAll.calls k s rs rest _ HR.out).mono ?_
        rintro e w6 ⟨vr, rfl, hR, hb⟩
        refine ⟨_, rfl, ?_⟩
        have F10 := Aside0.mk (Kd.R_lower hR HBr.out.size)
        try (have n0_ := Aside0.mk (Kd.R_below F6.out hb); clear F6; have F6 := n0_; clear n0_)
        try (have n0_ := Aside0.mk ((hb.block b (impl_delta.map_lt F11.out)).trans F11.out); clear F11; have F11 := n0_; clear n0_)
        have n0_ := Aside0.mk (below_step HBr.out hb)
        clear HBr hb hR
        have HBr := n0_
        clear n0_
        obtain ⟨Ar, cr, rfl⟩ := Kd.R_slice F10.out
        refine hK.out _ _ ⟨pw_cell_below HBr.out y0, pw_cell_below HBr.out y1, pw_cell_below HBr.out y2, pw_cell_below HBr.out y3⟩ (fun hHeld => ?_)
        clear hK K
        refine norm_ (a' := ?_) ?_ ?_
        rotate_left
        · (show Act.put _ (some 20) _ = _; simp only [Act.put, q1, q2, q3, q4, q5, q6, q7]; rfl)
        exact norm_ (by simp only [putAll, Act.put, q1, q2, q3]) (hCont ((Af, cf), (Ar, cr), b) _ ⟨F6.out, F10.out, F11.out, G11, HBr.out⟩)
    clear HBr hHeld
    rintro ⟨⟨Af, cf⟩, ⟨Ar, cr⟩, b⟩ w21 ⟨f6, f10, f11, g11, hB21⟩
    have HBr := Aside0.mk hB21
    have hHeld : w21.cell? ⟨w.heap.size, 0, none⟩ = some (.int .i64 sz) ∧ w21.cell? ⟨w.heap.size, 1, none⟩ = some (.int .i64 rs) ∧ w21.cell? ⟨w.heap.size, 2, none⟩ = some (.slice A2 wk.length c2) ∧ w21.cell? ⟨w.heap.size, 3, none⟩ = some (.slice A3 st.length c3) := ⟨pw_cell_below HBr.out y0, pw_cell_below HBr.out y1, pw_cell_below HBr.out y2, pw_cell_below HBr.out y3⟩
    refine norm_ (a' := ?_) ?_ ?_
    rotate_left
    · (simp only [putAll, Act.put, q1, q2, q3]; rfl)
    refine pure_ (i := 12) (N := some 22) (v := ?_) (a' := ?_) (bm 15 8191) rfl rfl (any_of HT_.out (by kernel_rfl)) (fun _ _ _ h => h) (Or.inl ⟨by rfl, ?_⟩) ?_ ?_; rotate_left; · (intro w'; go_simp; with_reducible rfl)
    rotate_left; · (simp only [Act.put, q1, q2, q3, q4, q5, q6, q7]; rfl)
    refine one_ (i := 13) (N := some 23) (bm 15 16383) rfl rfl (one_of HT_.out (by kernel_rfl)) (by decide) (fun K hK => ?_)
    refine box_step ?hg (N := 23) ?hd (cs := #[.int .i64 sz, .int .i64 rs, .slice A2 wk.length c2, .slice A3 st.length c3, .int .u32 sd, .string s, .slice Af full.length cf, .slice Ar rest.length cr, .map (some b)]) (t := 127) ?hr ?_; (case hd => rfl); (case hg => rfl); (case hr => first | (go_simp; done) | (go_simp; rfl))
    intro g hg w7 hbox hb
    have HBk := Aside0.mk hbox
    have G7 : W1.heap.size ≤ g := by rw [hg]; exact HBr.out.size
    have n6 := Kd.R_below f6 hb
    have n10 := Kd.R_below f10 hb
    have n11 := (hb.block b (impl_delta.map_lt f11)).trans f11
    have n0_ := Aside0.mk (below_step HBr.out hb)
    clear HBr hb hg f6 f10 f11
    have HBr := n0_
    clear n0_
    refine hK.out _ _ ⟨pw_cell_below HBr.out y0, pw_cell_below HBr.out y1, pw_cell_below HBr.out y2, pw_cell_below HBr.out y3⟩ (fun hHeld => ?_)
    clear hK K
    refine norm_ (a' := ?_) ?_ ?_
    rotate_left
    · (show Act.put _ (some 23) _ = _; simp only [Act.put, q1, q2, q3, q4, q5, q6, q7]; rfl)
    refine pure_ (i := 14) (N := some 7) (v := ?_) (a' := ?_) (bm 15 32767) rfl rfl (any_of HT_.out (by kernel_rfl)) (fun _ _ _ h => h) (Or.inl ⟨by rfl, ?_⟩) ?_ ?_; rotate_left; · (intro w'; go_simp; with_reducible rfl)
    rotate_left; · (simp only [Act.put, q1, q2, q3, q4, q5, q6, q7]; rfl)
    refine done_ (done_of HT_.out (by kernel_rfl)) ?_
    try go_wp2
    go_meet
    case rel => exact ⟨g, b, Af, cf, Ar, cr, rfl, ⟨G7⟩, ⟨g11⟩, HBk, ⟨n6⟩, ⟨n10⟩, ⟨n11⟩, HBr⟩
  case rest =>
    obtain ⟨g, b, Af, cf, Ar, cr, rfl, G1, G2, HG, HFl, HRs, HM, HBc⟩ := hcut
    have hs1 : w.heap.size ≤ W1.heap.size := HB.out.size
    have hlt3 := blk_lt B3.out
    have y2c : wc.cell? ⟨w.heap.size, 2, none⟩ = some (.slice A2 wk.length c2) := (blk_cell ((HBc.out.block _ hlt3).trans B3.out) 2).trans rfl
    have HBw := Aside0.mk (below_step HB.out HBc.out)
    have hg1 : w.heap.size ≤ g := Nat.le_trans hs1 G1.out
    have hb1 : w.heap.size ≤ b := Nat.le_trans hs1 G2.out
    have hbz := impl_delta.map_lt HM.out
    have HO := Aside0.mk (show wc.ownsGroups (H := Unit) Tryd.prog 22 (b + 1) 3 .i64 b 0 (.map []) from ⟨#[], 0, HM.out, ⟨by simp, MapKept.stamped_empty 0, by simp⟩, Nat.le_refl _, rfl, Nat.lt_succ_self _, by simp, by simp⟩)
    have HL := Aside0.mk (Kd.R_lower HFl.out hs1)
    have HRl := Aside0.mk (Kd.R_lower HRs.out hs1)
    have HZ := Aside0.mk (show b + 1 ≤ wc.heap.size from hbz)
    clear HFl HRs HM HBc G1 G2 y0 y1 y2 y3
    go_wp2
    go_loopg [27] wk.length (fun kq v27 w' => ∃ (i : Nat) (D : DataW Unit), v27 = .int .i64 (i : Int) ∧ Aside0 (i + kq = wk.length) ∧ Aside0 (w'.heap[g]? = some (.cells #[.int .i64 sz, .int .i64 rs, .slice A2 wk.length c2, .slice A3 st.length c3, .int .u32 sd, .string s, .slice Af full.length cf, .slice Ar rest.length cr, .map (some b)] 127 (0, 0))) ∧ Aside0 (Kd.R (Kd.int .u32) 22 w' w.heap.size (fun _ => True) (.slice Af full.length cf) full) ∧ Aside0 (Kd.R (Kd.int .u32) 22 w' w.heap.size (fun _ => True) (.slice Ar rest.length cr) rest) ∧ Aside0 (w'.ownsGroups (H := Unit) Tryd.prog 22 (b + 1) 3 .i64 b i D) ∧ Aside0 (impl_delta.Mp wk i D) ∧ Aside0 (b + 1 ≤ w'.heap.size) ∧ Aside0 (Below w.heap.size w w'))
    case atStart => exact ⟨0, _, rfl, ⟨by omega⟩, HG, HL, HRl, HO, ⟨fun x => rfl⟩, HZ, HBw⟩
    case round =>
      clear HG HL HRl HO HZ HBw y2c
      obtain ⟨i, D, rfl, HI, HG, HL, HRl, HO, HMp, HZ, HB⟩ := hrel
      by_cases hlt : (i : Int) < (wk.length : Int)
      · have hltb : decide ((i : Int) < (wk.length : Int)) = true := decide_eq_true hlt
        obtain ⟨k1, rfl⟩ : ∃ k1, gk = k1 + 1 := ⟨gk - 1, by have := HI.out; omega⟩
        have i0 : (0 : Int) ≤ (i : Int) := by omega
        obtain ⟨a2, rfl, x0⟩ := Kd.at_int (Kd.C_below HR2.out HB.out) (i : Int) i0 hlt
        rw [Int.toNat_natCast] at x0
        obtain ⟨x, hx⟩ : ∃ x, x = rd wk (i : Int) := ⟨_, rfl⟩
        rw [← hx] at x0
        have HX := Aside0.mk hx
        have hxw : 0 ≤ x ∧ x < 4294967296 := by
          have hi' : i < wk.length := by omega
          have hm := HW.out wk[i] (List.getElem_mem hi')
          rw [hx]
          unfold rd
          simp only [Int.toNat_natCast, List.getD_eq_getElem?_getD, List.getElem?_eq_getElem hi', Option.getD_some]
          exact hm
        clear hx
        go_upto_region 5 with fail
        obtain ⟨v, zs, hlook, hat, hoi, hzl, hback⟩ := impl_delta.stable HO.out (by unfold maxLen; omega) x hxw
        have hz : zs = impl_delta.idx wk x i := impl_delta.rowD_inj hoi ((HMp.out x).symm.trans hat)
        have ym : wr.cell? ⟨g, 8, none⟩ = some (.map (some b)) := (blk_cell HG.out 8).trans rfl
        have hbs := HZ.out
        have hblt : b < wr.heap.size := by omega
        have hbne : some b ≠ v.ownBlock := fun e => by have := (hoi.1.lt b e.symm).1; omega
        have hgne : some g ≠ v.ownBlock := fun e => by
          obtain ⟨cells, hc⟩ := own_typed hoi.1 g e.symm
          rw [HG.out] at hc
          injection hc with hc
          injection hc with _ hc
          cases hc
        have hi64 := impl_delta.wfN (i := i) (by omega)
        have hzl2 : zs.length ≤ 2500 := by omega
        refine start_ (n := 15) (S := fun w' => w'.cell? ⟨g, 8, none⟩ = some (.map (some b)) ∧ w'.heap[b]? = wr.heap[b]?) (ds := [14]) (bm 15 0) (by kernel_rfl) rfl rfl ⟨ym, rfl⟩ (fun hHeld => ?_); refine with_tabW impl_delta.tab100_5 impl_delta.bits100_5 (fun HT_ HW_ => ?_)
        have HBr := Aside0.mk (below_drew (Below.refl wr.heap.size wr))
        generalize wr.drew = wd at HBr hHeld ⊢
        refine pure_ (i := 0) (N := some 32) (v := ?_) (a' := ?_) (bm 15 1) rfl rfl (any_of HT_.out (by kernel_rfl)) (fun _ _ _ h => h) (Or.inl ⟨by rfl, ?_⟩) ?_ ?_; rotate_left; · (intro w'; go_simp; with_reducible rfl)
        rotate_left; · (simp only [Act.put, q1, q2, q3, q4, q5, q6, q7]; rfl)
        refine pure_ (i := 1) (N := some 33) (v := ?_) (a' := ?_) (bm 15 3) rfl rfl (any_of HT_.out (by kernel_rfl)) (fun _ _ _ h => h) (Or.inl ⟨by rfl, ?_⟩) ?_ ?_; rotate_left; · (intro w'; go_simp; with_reducible rfl)
        rotate_left; · (simp only [Act.put, q1, q2, q3, q4, q5, q6, q7]; rfl)
        refine pure_ (i := 2) (N := some 34) (v := ?_) (a' := ?_) (bm 15 7) rfl rfl (any_of HT_.out (by kernel_rfl)) (fun _ _ _ h => h) (Or.inl ⟨by rfl, ?_⟩) ?_ ?_; rotate_left; · (intro w'; go_simp; with_reducible rfl)
        rotate_left; · (simp only [Act.put, q1, q2, q3, q4, q5, q6, q7]; rfl)
        refine pure_ (i := 4) (N := some 36) (v := ?_) (a' := ?_) (bm 15 23) rfl rfl (any_of HT_.out (by kernel_rfl)) (fun _ _ _ h => h) (Or.inl ⟨by rfl, ?_⟩) ?_ ?_; rotate_left; · (intro w'; go_simp; with_reducible rfl)
        rotate_left; · (simp only [Act.put, q1, q2, q3, q4, q5, q6, q7]; rfl)
        refine pure_ (i := 5) (N := some 37) (v := ?_) (a' := ?_) (bm 15 55) rfl rfl (any_of HT_.out (by kernel_rfl)) (fun _ _ _ h => h) (Or.inl ⟨by rfl, ?_⟩) ?_ ?_; rotate_left; · (intro w'; go_simp; with_reducible rfl)
        rotate_left; · (simp only [Act.put, q1, q2, q3, q4, q5, q6, q7]; rfl)
        refine pure_ (i := 6) (N := some 38) (v := ?_) (a' := ?_) (bm 15 119) rfl rfl (any_of HT_.out (by kernel_rfl)) (fun _ _ _ h => h) (Or.inl ⟨by rfl, ?_⟩) ?_ ?_; rotate_left; · (intro w'; go_simp; with_reducible rfl)
        rotate_left; · (simp only [Act.put, q1, q2, q3, q4, q5, q6, q7]; rfl)
        refine pure_ (i := 7) (N := some 39) (v := ?_) (a' := ?_) (bm 15 247) rfl rfl (any_of HT_.out (by kernel_rfl)) (fun _ _ _ h => h) (Or.inl ⟨by rfl, ?_⟩) ?_ ?_; rotate_left; · (intro w'; go_simp; with_reducible rfl)
        rotate_left; · (simp only [Act.put, q1, q2, q3, q4, q5, q6, q7]; rfl)
        refine pure_ (i := 9) (N := some 41) (v := ?_) (a' := ?_) (bm 15 759) rfl rfl (any_of HT_.out (by kernel_rfl)) (fun _ _ _ h => h) (Or.inl ⟨by rfl, ?_⟩) ?_ ?_; rotate_left; · (intro w'; go_simp; with_reducible rfl)
        rotate_left; · (simp only [Act.put, q1, q2, q3, q4, q5, q6, q7]; rfl)
        refine pure_ (i := 11) (N := some 43) (v := ?_) (a' := ?_) (bm 15 2807) rfl rfl (any_of HT_.out (by kernel_rfl)) (fun _ _ _ h => h) (Or.inl ⟨by rfl, ?_⟩) ?_ ?_; rotate_left; · (intro w'; go_simp; with_reducible rfl)
        rotate_left; · (simp only [Act.put, q1, q2, q3, q4, q5, q6, q7]; rfl)
        refine take_ (i := 3) (N := some 35) (v := ?_) (a' := ?_) (bm 15 2815) rfl rfl (take_ofW HT_.out HW_.out (by kernel_rfl)) (fun _ _ _ h => h) (Or.inl ⟨by rfl, ?_⟩) hHeld ?_ ?_; rotate_left; · (rintro w' ⟨s0, s1⟩; go_simp; with_reducible rfl)
        rotate_left; · (simp only [Act.put, q1, q2, q3, q4, q5, q6, q7]; rfl)
        refine take_ (i := 8) (N := some 40) (v := ?_) (a' := ?_) (bm 15 3071) rfl rfl (take_ofW HT_.out HW_.out (by kernel_rfl)) (fun _ _ _ h => h) (Or.inl ⟨by rfl, ?_⟩) hHeld ?_ ?_; rotate_left; · (rintro w' ⟨s0, s1⟩; go_simp; with_reducible rfl)
        rotate_left; · (simp only [Act.put, q1, q2, q3, q4, q5, q6, q7]; rfl)
        refine take_ (i := 10) (N := some 42) (v := ?_) (a' := ?_) (bm 15 4095) rfl rfl (take_ofW HT_.out HW_.out (by kernel_rfl)) (fun _ _ _ h => h) (Or.inl ⟨by rfl, ?_⟩) hHeld ?_ ?_; rotate_left; · (rintro w' ⟨s0, s1⟩; go_simp; first | with_reducible rfl | (rw [hlook w' s1]; rfl))
        rotate_left; · (simp only [Act.put, q1, q2, q3, q4, q5, q6, q7]; rfl)
        refine one_ (i := 12) (N := some 44) (bm 15 8191) rfl rfl (one_of HT_.out (by kernel_rfl)) (by decide) (fun K hK => ?_)
        refine event_step (by rfl) (v := .slice (some ⟨wd.heap.size, 0, none⟩) 1 1) (w1 := wd.alloc (.cells #[.int .i64 (i : Int)] 3)) (by first | (go_simp; done) | (go_simp; rfl)) ?_
        refine hK.out _ _ ⟨pw_cell_below (below_alloc HBr.out _) ym, (((below_alloc HBr.out (.cells #[.int .i64 (i : Int)] 3)).block b hblt))⟩ (fun hHeld => ?_)
        clear hK K
        refine norm_ (a' := ?_) ?_ ?_
        rotate_left
        · (show Act.put _ (some 44) _ = _; simp only [Act.put, q1, q2, q3, q4, q5, q6, q7]; rfl)
        refine one_ (i := 13) (N := some 45) (bm 15 16383) rfl rfl (one_of HT_.out (by kernel_rfl)) (by decide) (fun K hK => ?_)
        refine step_append_cells (w0 := wr) (W := wd) (b + 1) (by rfl) _ _ 104 3 (.int .i64 0) 1 8 rfl Tryd.underlying104 impl_delta.i3 rfl (by decide) (by decide) v zs.length (zs.map (Value.int .i64)) [.int .i64 (i : Int)] rfl rfl rfl (by simp [Value.oneCell']) (own_move hoi.1 (fun k hk => HBr.out.block k (own_lt hoi.1 k hk))) (HBr.out.mono (by omega)) (Nat.le_trans hbs HBr.out.size) (by omega) ?_
        intro v1 w6 hown1 _ hg1 hat1
        have hgw : wr.grownBy w6 v.ownBlock := (grown_of_below HBr.out _).trans hg1
        refine hK.out _ _ ⟨hgw.cell ym hgne, hgw.block b hblt hbne⟩ (fun hHeld => ?_)
        clear hK K
        refine norm_ (a' := ?_) ?_ ?_
        rotate_left
        · (show Act.put _ (some 45) _ = _; simp only [Act.put, q1, q2, q3, q4, q5, q6, q7]; rfl)
        refine last_ (i := 14) (N := none) (bm 15 32767) rfl rfl (one_of HT_.out (by kernel_rfl)) (by decide) (fun K hK => ?_)
        obtain ⟨w7, hrun, hown2, hg2⟩ := hback w6 v1 (zs ++ [(i : Int)]) hgw ⟨by simpa using hown1, impl_delta.wf_snoc hoi.2 hi64⟩ (by simp; omega) (hat1.imp id (fun h => by obtain ⟨x, h1, h2⟩ := h; exact ⟨x, h1, Nat.le_trans HBr.out.size h2⟩))
        refine impl_delta.skip_step (by rfl) rfl (w1 := w7) (by simp [execOp, Act.eval, hrun, Result.andThen]) ?_
        refine hK.out _ _ ?_
        clear hK K
        refine norm_ (a' := ?_) ?_ ?_
        rotate_left
        · (show Act.put _ (none) _ = _; simp only [Act.put, q1, q2, q3, q4, q5, q6, q7]; rfl)
        refine done_ (done_of HT_.out (by kernel_rfl)) ?_
        have hmap6 : ∃ es clock, w6.heap[b]? = some (.map es clock) := by
          obtain ⟨es, clock, h1, _⟩ := HO.out
          exact ⟨es, clock, (hgw.block b hblt hbne).trans h1⟩
        obtain ⟨es6, clock6, hm6⟩ := hmap6
        have hglt : g < wr.heap.size := blk_lt HG.out
        have hgb : g ≠ b := fun e => by
          obtain ⟨es, clock, h1, _⟩ := HO.out
          rw [← e, HG.out] at h1
          cases h1
        have HG7 := Aside0.mk (((hg2.block g (Nat.lt_of_lt_of_le hglt hgw.size) (fun e => hgb (by injection e))).trans (hgw.block g hglt hgne)).trans HG.out)
        have hty := own_typed hoi.1
        have HL7 := Aside0.mk (impl_delta.keepM (Kd.R_over' HL.out hty (by simp [Kd.int, Kd.scalar]) hgw) hm6 hg2)
        have HR7 := Aside0.mk (impl_delta.keepM (Kd.R_over' HRl.out hty (by simp [Kd.int, Kd.scalar]) hgw) hm6 hg2)
        have HB7 := Aside0.mk ((HB.out.grown hgw HB.out.size (fun j hj => by have := (hoi.1.lt j hj).1; omega)).grown hg2 (Nat.le_trans HB.out.size hgw.size) (fun j hj => by injection hj with hj; omega))
        have HZ7 := Aside0.mk (Nat.le_trans hbs (Nat.le_trans hgw.size hg2.size))
        have hx2 : wk.getD i 0 = x := by rw [HX.out]; unfold rd; rw [Int.toNat_natCast]
        have HM7 := Aside0.mk (impl_delta.Mp_put HMp.out HO.out hx2 hz (hown1 := (⟨by simpa using hown1, impl_delta.wf_snoc hoi.2 hi64⟩ : w6.ownsInts (b + 1) 3 .i64 v1 (zs ++ [(i : Int)]))))
        have HI7 := Aside0.mk (show i + 1 + k1 = wk.length by have := HI.out; omega)
        have hiw : IntKind.i64.wrap ((i : Int) + 1) = ((i + 1 : Nat) : Int) := by rw [IntKind.wrap_i64]; omega
        clear hHeld hlook hback
        try go_wp2
        go_roundg k1
        case measure => omega
        case rel => exact ⟨i + 1, _, by first | exact congrArg (Value.int .i64) hiw | simp [hiw], HI7, HG7, HL7, HR7, ⟨hown2⟩, HM7, HZ7, HB7⟩
      · have hltb : decide ((i : Int) < (wk.length : Int)) = false := decide_eq_false hlt
        obtain rfl : gk = 0 := by have := HI.out; omega
        obtain rfl : i = wk.length := by have := HI.out; omega
        go_wp2
        go_ret
        obtain ⟨Af', cf', e1, l1, h1⟩ := Kd.R_reads HL.out
        obtain ⟨Ar', cr', e2, l2, h2⟩ := Kd.R_reads HRl.out
        obtain ⟨rfl, _, rfl⟩ : Af = Af' ∧ full.length = full.length ∧ cf = cf' := by injection e1 with a b c; exact ⟨a, b, c⟩
        obtain ⟨rfl, _, rfl⟩ : Ar = Ar' ∧ rest.length = rest.length ∧ cr = cr' := by injection e2 with a b c; exact ⟨a, b, c⟩
        exact ⟨g, rfl, hg1, ⟨Af, cf, Ar, cr, b, HG.out, h1, l1, h2, l2, D, HO.out, HMp.out⟩, HB.out⟩
theorem impl_delta.row9 {w : World} {g t : Nat} {x0 x1 x2 x3 x4 x5 x6 x7 x8 : Value} (h : w.heap[g]? = some (.cells #[x0, x1, x2, x3, x4, x5, x6, x7, x8] t (0, 0))) :
    w.cell? ⟨g, 0, none⟩ = some x0 ∧ w.cell? ⟨g, 1, none⟩ = some x1 ∧ w.cell? ⟨g, 2, none⟩ = some x2 ∧ w.cell? ⟨g, 3, none⟩ = some x3 ∧ w.cell? ⟨g, 4, none⟩ = some x4 ∧ w.cell? ⟨g, 5, none⟩ = some x5 ∧ w.cell? ⟨g, 6, none⟩ = some x6 ∧ w.cell? ⟨g, 7, none⟩ = some x7 ∧ w.cell? ⟨g, 8, none⟩ = some x8 := by
  simp [World.cell?, h]
theorem impl_delta.long_some (sz rs : Int) (wk : List Int) (st : List ByteArray) (q : Int) : impl_Sig_long.f sz rs wk st q = some (impl_delta.long sz rs wk.length q) := by
  unfold impl_Sig_long.f impl_delta.long
  by_cases h : rs > 0
  · rw [if_pos h, if_pos h]
    by_cases h2 : q = wrap64 ((wk.length : Int) - 1)
    · rw [if_pos h2, if_pos h2]
    · rw [if_neg h2, if_neg h2]
  · rw [if_neg h, if_neg h]
theorem impl_delta.short_some (a : Int) (s : ByteArray) (hs : s.size ≤ 19996) : impl_short.f a s 4 = some (YtbkodnhnadkhdaaDoor.Str.shortOf a s 4) := by
  have hw : impl_wordText.f a = some (strOfNums (YtbkodnhnadkhdaaDoor.Word.word a)) := rfl
  have h4 : (strOfNums (YtbkodnhnadkhdaaDoor.Word.word a)).size = 4 := by rw [strOfNums_size]; rfl
  have hz := YtbkodnhnadkhdaaDoor.Str.seeded_size a s
  unfold impl_short.f
  unfold YtbkodnhnadkhdaaDoor.Str.seeded at hz
  rw [hw, Option.bind_some, if_pos (by omega)]
  unfold impl_strong.f
  rw [if_pos (by omega), Option.bind_some, if_pos (by omega), if_pos (by rw [strOfNums_size, YtbkodnhnadkhdaaDoor.Str.md5_length]; omega), Go.Proofs.YtbkodnhnadkhdaaDoor.Lib.extract_strOfNums, List.drop_zero]
  unfold YtbkodnhnadkhdaaDoor.Str.shortOf YtbkodnhnadkhdaaDoor.Str.fits16 YtbkodnhnadkhdaaDoor.Str.seeded
  rw [if_pos (by simp; omega)]
def impl_delta.T101_3 : Bool × List (List Nat × List Nat) := (true, [([], []), ([0], [0]), ([1], [1]), ([2], [2]), ([], []), ([3, 4], [3, 4]), ([], []), ([6], [6]), ([7], [7]), ([8], [8]), ([5, 5, 0, 1, 2, 3, 4, 5], [5]), ([9, 10, 0, 1, 2, 3, 4, 5, 6, 7, 8, 9, 10], [9])])
def impl_delta.B101_3 : List Nat := [0, 1, 3, 7, 0, 31, 0, 64, 192, 448, 63, 2047]
theorem impl_delta.tab101_3 : rtab .any (opsOf Tryd.f101 3) = impl_delta.T101_3 := by kernel_rfl
theorem impl_delta.bits101_3 : waitsOk impl_delta.T101_3.2 impl_delta.B101_3 = true := by kernel_rfl
def impl_delta.T101_6 : Bool × List (List Nat × List Nat) := (true, [([], []), ([], []), ([1], [1]), ([0, 2], [0, 2]), ([3], [3]), ([4], [4]), ([4], [4]), ([5, 6, 4], [4, 5, 6]), ([7, 4], [4, 7]), ([4], [4]), ([9, 4], [4, 9]), ([10, 4], [4, 10]), ([11, 4], [4, 11]), ([12, 4], [4, 12]), ([4], [4]), ([13, 14, 4], [4, 13, 14]), ([15, 4], [4, 15]), ([8, 16, 4], [4, 8, 16]), ([4, 17], [4, 17]), ([18, 4], [18]), ([19], [19]), ([20, 19], [19, 20]), ([21, 19], [19, 21]), ([22, 19], [19, 22]), ([19], [19]), ([24, 19], [19, 24]), ([25, 19], [19, 25]), ([26, 19], [19, 26]), ([19], [19]), ([19], [19]), ([19], [19]), ([29, 30, 19], [19, 29, 30]), ([27, 28, 31, 19], [19, 27, 28, 31]), ([23, 32, 19, 19], [19, 23, 32]), ([19], [19]), ([34, 19], [19, 34]), ([35, 19], [19, 35]), ([36, 19], [19, 36]), ([37, 19], [19, 37]), ([19], [19]), ([38, 39, 19], [19, 38, 39]), ([40, 19], [19, 40]), ([33, 41, 19], [19, 33, 41]), ([19, 42], [19, 42]), ([43, 33, 0, 1, 2, 3, 4, 5, 6, 7, 8, 9, 10, 11, 12, 13, 14, 15, 16, 17, 18, 19, 20, 21, 22, 23, 24, 25, 26, 27, 28, 29, 30, 31, 32, 33, 34, 35, 36, 37, 38, 39, 40, 41, 42, 43], [43])])
def impl_delta.B101_6 : List Nat := [0, 0, 2, 7, 15, 31, 31, 127, 255, 31, 543, 1567, 3615, 7711, 31, 32287, 65055, 131071, 262143, 524287, 1048575, 2097151, 4194303, 8388607, 1048575, 17825791, 51380223, 118489087, 1048575, 1048575, 1048575, 1611661311, 4279238655, 8589934591, 1048575, 17180917759, 51540656127, 120260132863, 257699086335, 1048575, 1082332807167, 2181844434943, 4398046511103, 8796093022207, 17592186044415]
theorem impl_delta.tab101_6 : rtab .any (opsOf Tryd.f101 6) = impl_delta.T101_6 := by kernel_rfl
theorem impl_delta.bits101_6 : waitsOk impl_delta.T101_6.2 impl_delta.B101_6 = true := by kernel_rfl
set_option maxHeartbeats 8000000 in
set_option maxRecDepth 100000 in
theorem impl_delta.fitF {sz rs : Int} {A2 : Option Addr} {c2 : Nat} {wk : List Int} {A3 : Option Addr} {c3 : Nat} {st : List ByteArray} {sd : Int} {s : ByteArray} {full rest : List Int} (hok : impl_delta.ok sz rs wk st sd s full rest = true) (q i : Int) (hq : 0 ≤ q) (hi0 : 0 ≤ i) {w : World} {g : Nat} (hT : Tab w)
    (hr2 : Kd.C (Kd.int .u32) w A2 wk.length wk) (hc2 : wk.length ≤ c2) (hr3 : Kd.C Kd.string w A3 st.length st) (hc3 : st.length ≤ c3) (hfin : impl_delta.Fin w g sz rs A2 c2 wk A3 c3 st sd s full rest) :
    Calls Tryd.prog 101 #[.pointer (some ⟨g, 0, none⟩), .int .i64 q, .int .i64 i] w fun e w' => e = .returned (.bool (impl_delta.fits sz rs wk st sd s full rest q i)) ∧ Below w.heap.size w w' := by
  obtain ⟨Af, cf, Ar, cr, b, HG, hf, hcf, hr, hcr, _⟩ := hfin
  obtain ⟨y0, y1, y2, y3, y4, y5, y6, y7, y8⟩ := impl_delta.row9 HG
  unfold impl_delta.ok at hok
  simp only [Bool.and_eq_true, decide_eq_true_eq] at hok
  obtain ⟨⟨hz1, hz2, hs1, hs2, hw1, hw2, hsd, hdz, hfl, hrl⟩, _⟩ := hok
  unfold impl_delta.fits
  by_cases hlt : q ≥ (wk.length : Int)
  · rw [if_pos hlt]
    have hb1 : decide (q ≥ (wk.length : Int)) = true := decide_eq_true hlt
    have hb2 : decide ((wk.length : Int) ≤ q) = true := decide_eq_true hlt
    go_enter Tryd.func101, Tryd.ntmps101
    go_wp2
    go_ret
    exact ⟨rfl, Below.refl _ _⟩
  rw [if_neg hlt]
  have hb1 : decide (q ≥ (wk.length : Int)) = false := decide_eq_false hlt
  have hb2 : decide ((wk.length : Int) ≤ q) = false := decide_eq_false hlt
  obtain ⟨ln, hln⟩ : ∃ z, z = impl_delta.long sz rs wk.length q := ⟨_, rfl⟩
  have HLN := Aside0.mk (show impl_Sig_long.f sz rs wk st q = some ln by rw [hln]; exact impl_delta.long_some _ _ _ _ _)
  have hlr : ln = sz ∨ (ln = rs ∧ rs > 0) := by
    rw [hln]; unfold impl_delta.long
    split
    · split
      · exact .inr ⟨rfl, by assumption⟩
      · exact .inl rfl
    · exact .inl rfl
  rw [← hln]
  obtain ⟨sm, hsm⟩ : ∃ z, z = if ln = sz then full else rest := ⟨_, rfl⟩
  rw [← hsm]
  obtain ⟨R, hR⟩ : ∃ R : Bool, R = (if i < (sm.length : Int) then (if rd sm i = rd wk q then ((YtbkodnhnadkhdaaDoor.Str.shortOf sd (s.extract i.toNat (wrap64 (i + ln)).toNat) 4).toList == (rdOf ByteArray.empty st q).toList) else false) else false) := ⟨_, rfl⟩
  rw [← hR]
  have HRR := Aside0.mk hR
  have HSM := Aside0.mk hsm
  clear hR
  have HR2 := Aside0.mk hr2
  have HR3 := Aside0.mk hr3
  have HC2 := Aside0.mk hc2
  have HC3 := Aside0.mk hc3
  have HT := Aside0.mk hT
  have HLR := Aside0.mk hlr
  have HFL := Aside0.mk hfl
  have HRL := Aside0.mk hrl
  have HW2 := Aside0.mk hw2
  clear hr2 hr3 hc2 hc3 hT hln hlr hfl hrl hw2
  go_enter Tryd.func101, Tryd.ntmps101
  go_upto_region 3 with fail
  refine start_ (n := 12) (S := fun w' => w'.cell? ⟨g, 0, none⟩ = some (.int .i64 sz) ∧ w'.cell? ⟨g, 1, none⟩ = some (.int .i64 rs) ∧ w'.cell? ⟨g, 2, none⟩ = some (.slice A2 wk.length c2) ∧ w'.cell? ⟨g, 3, none⟩ = some (.slice A3 st.length c3) ∧ w'.cell? ⟨g, 6, none⟩ = some (.slice Af full.length cf)) (ds := []) (bm 12 0) (by kernel_rfl) rfl rfl ⟨y0, y1, y2, y3, y6⟩ (fun hHeld => ?_); refine with_tabW impl_delta.tab101_3 impl_delta.bits101_3 (fun HT_ HW_ => ?_)
  have HBr := Aside0.mk (below_drew (Below.refl w.heap.size w))
  generalize w.drew = wd at HBr hHeld ⊢
  refine pure_ (i := 0) (N := some 17) (v := ?_) (a' := ?_) (bm 12 1) rfl rfl (any_of HT_.out (by kernel_rfl)) (fun _ _ _ h => h) (Or.inl ⟨by rfl, ?_⟩) ?_ ?_; rotate_left; · (intro w'; go_simp; with_reducible rfl)
  rotate_left; · (simp only [Act.put, q1, q2, q3, q4, q5, q6, q7]; rfl)
  refine pure_ (i := 1) (N := some 18) (v := ?_) (a' := ?_) (bm 12 3) rfl rfl (any_of HT_.out (by kernel_rfl)) (fun _ _ _ h => h) (Or.inl ⟨by rfl, ?_⟩) ?_ ?_; rotate_left; · (intro w'; go_simp; with_reducible rfl)
  rotate_left; · (simp only [Act.put, q1, q2, q3, q4, q5, q6, q7]; rfl)
  refine pure_ (i := 2) (N := some 19) (v := ?_) (a' := ?_) (bm 12 7) rfl rfl (any_of HT_.out (by kernel_rfl)) (fun _ _ _ h => h) (Or.inl ⟨by rfl, ?_⟩) ?_ ?_; rotate_left; · (intro w'; go_simp; with_reducible rfl)
  rotate_left; · (simp only [Act.put, q1, q2, q3, q4, q5, q6, q7]; rfl)
  refine pure_ (i := 4) (N := some 21) (v := ?_) (a' := ?_) (bm 12 23) rfl rfl (any_of HT_.out (by kernel_rfl)) (fun _ _ _ h => h) (Or.inl ⟨by rfl, ?_⟩) ?_ ?_; rotate_left; · (intro w'; go_simp; with_reducible rfl)
  rotate_left; · (simp only [Act.put, q1, q2, q3, q4, q5, q6, q7]; rfl)
  refine pure_ (i := 6) (N := some 23) (v := ?_) (a' := ?_) (bm 12 87) rfl rfl (any_of HT_.out (by kernel_rfl)) (fun _ _ _ h => h) (Or.inl ⟨by rfl, ?_⟩) ?_ ?_; rotate_left; · (intro w'; go_simp; with_reducible rfl)
  rotate_left; · (simp only [Act.put, q1, q2, q3, q4, q5, q6, q7]; rfl)
  refine pure_ (i := 7) (N := some 24) (v := ?_) (a' := ?_) (bm 12 215) rfl rfl (any_of HT_.out (by kernel_rfl)) (fun _ _ _ h => h) (Or.inl ⟨by rfl, ?_⟩) ?_ ?_; rotate_left; · (intro w'; go_simp; with_reducible rfl)
  rotate_left; · (simp only [Act.put, q1, q2, q3, q4, q5, q6, q7]; rfl)
  refine pure_ (i := 8) (N := some 25) (v := ?_) (a' := ?_) (bm 12 471) rfl rfl (any_of HT_.out (by kernel_rfl)) (fun _ _ _ h => h) (Or.inl ⟨by rfl, ?_⟩) ?_ ?_; rotate_left; · (intro w'; go_simp; with_reducible rfl)
  rotate_left; · (simp only [Act.put, q1, q2, q3, q4, q5, q6, q7]; rfl)
  refine take_ (i := 3) (N := some 20) (v := ?_) (a' := ?_) (bm 12 479) rfl rfl (take_ofW HT_.out HW_.out (by kernel_rfl)) (fun _ _ _ h => h) (Or.inl ⟨by rfl, ?_⟩) hHeld ?_ ?_; rotate_left; · (rintro w' ⟨s0, s1, s2, s3, s6⟩; go_simp; with_reducible rfl)
  rotate_left; · (simp only [Act.put, q1, q2, q3, q4, q5, q6, q7]; rfl)
  refine take_ (i := 9) (N := some 26) (v := ?_) (a' := ?_) (bm 12 991) rfl rfl (take_ofW HT_.out HW_.out (by kernel_rfl)) (fun _ _ _ h => h) (Or.inl ⟨by rfl, ?_⟩) hHeld ?_ ?_; rotate_left; · (rintro w' ⟨s0, s1, s2, s3, s6⟩; go_simp; with_reducible rfl)
  rotate_left; · (simp only [Act.put, q1, q2, q3, q4, q5, q6, q7]; rfl)
  refine one_ (i := 5) (N := some 22) (bm 12 1023) rfl rfl (one_of HT_.out (by kernel_rfl)) (by decide) (fun K hK => ?_)
  refine goes_ Tryd.func73 (by kernel_rfl) rfl #[.agg #[.int .i64 sz, .int .i64 rs, .slice A2 wk.length c2, .slice A3 st.length c3], .int .i64 q] (by rfl) rfl rfl (by (try simp only [List.map_toArray, List.map_cons, List.map_nil]); first | done | rfl) ?_
  with_reducible refine (impl_Sig_long.calls sz rs A2 c2 wk A3 c3 st q ln _ (Kd.C_below HR2.out HBr.out) HC2.out (Kd.C_below HR3.out HBr.out) HC3.out HLN.out).mono ?_
  rintro e w6 ⟨rfl, hb⟩
  refine ⟨_, rfl, ?_⟩
  have n0_ := Aside0.mk (below_step HBr.out hb)
  clear HBr hb
  have HBr := n0_
  clear n0_
  refine hK.out _ _ ⟨pw_cell_below HBr.out y0, pw_cell_below HBr.out y1, pw_cell_below HBr.out y2, pw_cell_below HBr.out y3, pw_cell_below HBr.out y6⟩ (fun hHeld => ?_)
  clear hK K
  refine norm_ (a' := ?_) ?_ ?_
  rotate_left
  · (show Act.put _ (some 22) _ = _; simp only [Act.put, q1, q2, q3, q4, q5, q6, q7]; rfl)
  refine pure_ (i := 10) (N := some 7) (v := ?_) (a' := ?_) (bm 12 2047) rfl rfl (any_of HT_.out (by kernel_rfl)) (fun _ _ _ h => h) (Or.inl ⟨by rfl, ?_⟩) ?_ ?_; rotate_left; · (intro w'; go_simp; with_reducible rfl)
  rotate_left; · (simp only [Act.put, q1, q2, q3, q4, q5, q6, q7]; rfl)
  refine pure_ (i := 11) (N := some 8) (v := ?_) (a' := ?_) (bm 12 4095) rfl rfl (any_of HT_.out (by kernel_rfl)) (fun _ _ _ h => h) (Or.inl ⟨by rfl, ?_⟩) ?_ ?_; rotate_left; · (intro w'; go_simp; with_reducible rfl)
  rotate_left; · (simp only [Act.put, q1, q2, q3, q4, q5, q6, q7]; rfl)
  refine done_ (done_of HT_.out (by kernel_rfl)) ?_
  clear hHeld HT_ HW_
  have n0 := pw_cell_below HBr.out y0
  have n2 := pw_cell_below HBr.out y2
  have n3 := pw_cell_below HBr.out y3
  have n4 := pw_cell_below HBr.out y4
  have n5 := pw_cell_below HBr.out y5
  have n7 := pw_cell_below HBr.out y7
  clear y0 y1 y2 y3 y4 y5 y6 y7 y8
  have hsl : sm = [] ∨ (sm.length : Int) + ln ≤ s.size + 1 := by
    rw [hsm]
    by_cases h : ln = sz
    · rw [if_pos h, h]; exact HFL.out
    · rw [if_neg h]
      rcases HLR.out with h1 | ⟨h1, _⟩
      · exact absurd h1 h
      · rw [h1]; exact HRL.out
  have hln1 : 1 ≤ ln ∧ ln ≤ 256 := by
    rcases HLR.out with h1 | ⟨h1, h2⟩ <;> omega
  have HSL := Aside0.mk hsl
  have HLN1 := Aside0.mk hln1
  clear hsl hln1 hsm HLR HFL HRL
  have CF := Aside0.mk (Kd.C_below hf HBr.out)
  have CR := Aside0.mk (Kd.C_below hr HBr.out)
  clear hf hr hcf hcr HG
  go_upto_if 33 with (fail)
  go_cut [8] (fun v8 wc => ∃ (As : Option Addr) (cs : Nat), v8 = .slice As sm.length cs ∧ Aside0 (Kd.C (Kd.int .u32) wc As sm.length sm) ∧ Aside0 (wc = w6))
  case first =>
    by_cases h : ln = sz
    · have hb3 : (ln != sz) = false := by rw [h]; simp
      have e := HSM.out
      rw [if_pos h] at e
      subst e
      clear h
      go_wp2
      go_meet
      case rel => exact ⟨Af, cf, rfl, CF, ⟨rfl⟩⟩
    · have hb3 : (ln != sz) = true := by simp [h]
      have e := HSM.out
      rw [if_neg h] at e
      subst e
      clear h
      go_wp2
      go_meet
      case rel => exact ⟨Ar, cr, rfl, CR, ⟨rfl⟩⟩
  case rest =>
    obtain ⟨As, cs, rfl, HCS, ⟨rfl⟩⟩ := hcut
    clear n0 n7 CF CR HSM
    by_cases hil : i < (sm.length : Int)
    · have hb3 : decide (i < (sm.length : Int)) = true := decide_eq_true hil
      have hil2 := eq_true hil
      have hi02 := eq_true hi0
      have hq2 := eq_true hq
      have hql : q < (wk.length : Int) := by omega
      have hql2 := eq_true hql
      obtain ⟨ad, rfl, ys⟩ := Kd.at_int HCS.out i hi0 hil
      obtain ⟨a2, rfl, yw⟩ := Kd.at_int (Kd.C_below HR2.out HBr.out) q hq hql
      by_cases hxe : rd sm i = rd wk q
      · have e := HRR.out
        rw [if_pos hil, if_pos hxe] at e
        clear HRR
        obtain ⟨x, hx⟩ : ∃ x, x = rd wk q := ⟨_, rfl⟩
        rw [hxe] at ys
        rw [← hx] at ys yw
        have hqs : q < (st.length : Int) := by have := HW2.out; omega
        have hqs2 := eq_true hqs
        obtain ⟨a3, rfl, yt⟩ := Kd.at_string (Kd.C_below HR3.out HBr.out) q hq hqs
        have hs : (sm.length : Int) + ln ≤ s.size + 1 := by
          rcases HSL.out with h | h
          · rw [h] at hil; simp at hil; omega
          · exact h
        have hln2 := HLN1.out
        have hwr : IntKind.i64.wrap (i + ln) = wrap64 (i + ln) := i64_w _
        have hwr2 : wrap64 (i + ln) = i + ln := by unfold wrap64; omega
        have p1 : i ≤ wrap64 (i + ln) := by omega
        have p2 : wrap64 (i + ln) ≤ (s.size : Int) := by omega
        have p3 : (0 : Int) ≤ wrap64 (i + ln) := by omega
        have HSH := Aside0.mk (impl_delta.short_some sd (s.extract i.toNat (wrap64 (i + ln)).toNat) (by rw [ByteArray.size_extract]; omega))
        obtain ⟨y, hy⟩ : ∃ y, y = rdOf ByteArray.empty st q := ⟨_, rfl⟩
        rw [← hy] at yt e
        subst e
        clear hx hxe hy hwr2 HCS
        go_upto_region 6 with fail
        have HB0 := HBr
        clear HBr
        refine start_ (n := 45) (S := fun w' => w'.cell? ⟨g, 2, none⟩ = some (.slice (some a2) wk.length c2) ∧ w'.cell? ⟨g, 3, none⟩ = some (.slice (some a3) st.length c3) ∧ w'.cell? ⟨g, 4, none⟩ = some (.int .u32 sd) ∧ w'.cell? ⟨g, 5, none⟩ = some (.string s) ∧ w'.cell? (ad.add i.toNat) = some (.int .u32 x) ∧ w'.cell? (a2.add q.toNat) = some (.int .u32 x) ∧ w'.cell? (a3.add q.toNat) = some (.string y)) (ds := []) (bm 45 0) (by kernel_rfl) rfl rfl ⟨n2, n3, n4, n5, ys, yw, yt⟩ (fun hHeld => ?_); refine with_tabW impl_delta.tab101_6 impl_delta.bits101_6 (fun HT_ HW_ => ?_)
        have HBr := Aside0.mk (below_drew (Below.refl wc.heap.size wc))
        generalize wc.drew = wd at HBr hHeld ⊢
        refine pure_ (i := 0) (N := some 38) (v := ?_) (a' := ?_) (bm 45 1) rfl rfl (any_of HT_.out (by kernel_rfl)) (fun _ _ _ h => h) (Or.inl ⟨by rfl, ?_⟩) ?_ ?_; rotate_left; · (intro w'; go_simp; with_reducible rfl)
        rotate_left; · (simp only [Act.put, q1, q2, q3, q4, q5, q6, q7]; rfl)
        refine pure_ (i := 1) (N := some 39) (v := ?_) (a' := ?_) (bm 45 3) rfl rfl (any_of HT_.out (by kernel_rfl)) (fun _ _ _ h => h) (Or.inl ⟨by rfl, ?_⟩) ?_ ?_; rotate_left; · (intro w'; go_simp; with_reducible rfl)
        rotate_left; · (simp only [Act.put, q1, q2, q3, q4, q5, q6, q7]; rfl)
        refine pure_ (i := 2) (N := some 40) (v := ?_) (a' := ?_) (bm 45 7) rfl rfl (any_of HT_.out (by kernel_rfl)) (fun _ _ _ h => h) (Or.inl ⟨by rfl, ?_⟩) ?_ ?_; rotate_left; · (intro w'; go_simp; with_reducible rfl)
        rotate_left; · (simp only [Act.put, q1, q2, q3, q4, q5, q6, q7]; rfl)
        refine pure_ (i := 3) (N := some 41) (v := ?_) (a' := ?_) (bm 45 15) rfl rfl (any_of HT_.out (by kernel_rfl)) (fun _ _ _ h => h) (Or.inl ⟨by rfl, ?_⟩) ?_ ?_; rotate_left; · (intro w'; go_simp; with_reducible rfl)
        rotate_left; · (simp only [Act.put, q1, q2, q3, q4, q5, q6, q7]; rfl)
        refine pure_ (i := 4) (N := some 42) (v := ?_) (a' := ?_) (bm 45 31) rfl rfl (any_of HT_.out (by kernel_rfl)) (fun _ _ _ h => h) (Or.inl ⟨by rfl, ?_⟩) ?_ ?_; rotate_left; · (intro w'; go_simp; with_reducible rfl)
        rotate_left; · (simp only [Act.put, q1, q2, q3, q4, q5, q6, q7]; rfl)
        refine pure_ (i := 5) (N := some 43) (v := ?_) (a' := ?_) (bm 45 63) rfl rfl (any_of HT_.out (by kernel_rfl)) (fun _ _ _ h => h) (Or.inl ⟨by rfl, ?_⟩) ?_ ?_; rotate_left; · (intro w'; go_simp; with_reducible rfl)
        rotate_left; · (simp only [Act.put, q1, q2, q3, q4, q5, q6, q7]; rfl)
        refine pure_ (i := 6) (N := some 44) (v := ?_) (a' := ?_) (bm 45 127) rfl rfl (any_of HT_.out (by kernel_rfl)) (fun _ _ _ h => h) (Or.inl ⟨by rfl, ?_⟩) ?_ ?_; rotate_left; · (intro w'; go_simp; with_reducible rfl)
        rotate_left; · (simp only [Act.put, q1, q2, q3, q4, q5, q6, q7]; rfl)
        refine pure_ (i := 7) (N := some 45) (v := ?_) (a' := ?_) (bm 45 255) rfl rfl (any_of HT_.out (by kernel_rfl)) (fun _ _ _ h => h) (Or.inl ⟨by rfl, ?_⟩) ?_ ?_; rotate_left; · (intro w'; go_simp; with_reducible rfl)
        rotate_left; · (simp only [Act.put, q1, q2, q3, q4, q5, q6, q7]; rfl)
        refine pure_ (i := 9) (N := some 47) (v := ?_) (a' := ?_) (bm 45 767) rfl rfl (any_of HT_.out (by kernel_rfl)) (fun _ _ _ h => h) (Or.inl ⟨by rfl, ?_⟩) ?_ ?_; rotate_left; · (intro w'; go_simp; with_reducible rfl)
        rotate_left; · (simp only [Act.put, q1, q2, q3, q4, q5, q6, q7]; rfl)
        refine pure_ (i := 10) (N := some 48) (v := ?_) (a' := ?_) (bm 45 1791) rfl rfl (any_of HT_.out (by kernel_rfl)) (fun _ _ _ h => h) (Or.inl ⟨by rfl, ?_⟩) ?_ ?_; rotate_left; · (intro w'; go_simp; with_reducible rfl)
        rotate_left; · (simp only [Act.put, q1, q2, q3, q4, q5, q6, q7]; rfl)
        refine pure_ (i := 11) (N := some 49) (v := ?_) (a' := ?_) (bm 45 3839) rfl rfl (any_of HT_.out (by kernel_rfl)) (fun _ _ _ h => h) (Or.inl ⟨by rfl, ?_⟩) ?_ ?_; rotate_left; · (intro w'; go_simp; with_reducible rfl)
        rotate_left; · (simp only [Act.put, q1, q2, q3, q4, q5, q6, q7]; rfl)
        refine pure_ (i := 12) (N := some 50) (v := ?_) (a' := ?_) (bm 45 7935) rfl rfl (any_of HT_.out (by kernel_rfl)) (fun _ _ _ h => h) (Or.inl ⟨by rfl, ?_⟩) ?_ ?_; rotate_left; · (intro w'; go_simp; with_reducible rfl)
        rotate_left; · (simp only [Act.put, q1, q2, q3, q4, q5, q6, q7]; rfl)
        refine pure_ (i := 14) (N := some 52) (v := ?_) (a' := ?_) (bm 45 24319) rfl rfl (any_of HT_.out (by kernel_rfl)) (fun _ _ _ h => h) (Or.inl ⟨by rfl, ?_⟩) ?_ ?_; rotate_left; · (intro w'; go_simp; with_reducible rfl)
        rotate_left; · (simp only [Act.put, q1, q2, q3, q4, q5, q6, q7]; rfl)
        refine take_ (i := 8) (N := some 46) (v := ?_) (a' := ?_) (bm 45 24575) rfl rfl (take_ofW HT_.out HW_.out (by kernel_rfl)) (fun _ _ _ h => h) (Or.inl ⟨by rfl, ?_⟩) hHeld ?_ ?_; rotate_left; · (rintro w' ⟨s0, s1, s2, s3, s4, s5, s6⟩; go_simp; with_reducible rfl)
        rotate_left; · (simp only [Act.put, q1, q2, q3, q4, q5, q6, q7]; rfl)
        refine take_ (i := 13) (N := some 51) (v := ?_) (a' := ?_) (bm 45 32767) rfl rfl (take_ofW HT_.out HW_.out (by kernel_rfl)) (fun _ _ _ h => h) (Or.inl ⟨by rfl, ?_⟩) hHeld ?_ ?_; rotate_left; · (rintro w' ⟨s0, s1, s2, s3, s4, s5, s6⟩; go_simp; with_reducible rfl)
        rotate_left; · (simp only [Act.put, q1, q2, q3, q4, q5, q6, q7]; rfl)
        refine pure_ (i := 15) (N := some 53) (v := ?_) (a' := ?_) (bm 45 65535) rfl rfl (any_of HT_.out (by kernel_rfl)) (fun _ _ _ h => h) (Or.inl ⟨by rfl, ?_⟩) ?_ ?_; rotate_left; · (intro w'; go_simp; with_reducible rfl)
        rotate_left; · (simp only [Act.put, q1, q2, q3, q4, q5, q6, q7]; rfl)
        refine take_ (i := 16) (N := some 54) (v := ?_) (a' := ?_) (bm 45 131071) rfl rfl (take_ofW HT_.out HW_.out (by kernel_rfl)) (fun _ _ _ h => h) (Or.inl ⟨by rfl, ?_⟩) hHeld ?_ ?_; rotate_left; · (rintro w' ⟨s0, s1, s2, s3, s4, s5, s6⟩; go_simp; with_reducible rfl)
        rotate_left; · (simp only [Act.put, q1, q2, q3, q4, q5, q6, q7]; rfl)
        refine pure_ (i := 17) (N := some 55) (v := ?_) (a' := ?_) (bm 45 262143) rfl rfl (any_of HT_.out (by kernel_rfl)) (fun _ _ _ h => h) (Or.inl ⟨by rfl, ?_⟩) ?_ ?_; rotate_left; · (intro w'; go_simp; with_reducible rfl)
        rotate_left; · (simp only [Act.put, q1, q2, q3, q4, q5, q6, q7]; rfl)
        refine pure_ (i := 18) (N := some 56) (v := ?_) (a' := ?_) (bm 45 524287) rfl rfl (any_of HT_.out (by kernel_rfl)) (fun _ _ _ h => h) (Or.inl ⟨by rfl, ?_⟩) ?_ ?_; rotate_left; · (intro w'; go_simp; with_reducible rfl)
        rotate_left; · (simp only [Act.put, q1, q2, q3, q4, q5, q6, q7]; rfl)
        refine pure_ (i := 19) (N := some 57) (v := ?_) (a' := ?_) (bm 45 1048575) rfl rfl (any_of HT_.out (by kernel_rfl)) (fun _ _ _ h => h) (Or.inl ⟨by rfl, ?_⟩) ?_ ?_; rotate_left; · (intro w'; go_simp; with_reducible rfl)
        rotate_left; · (simp only [Act.put, q1, q2, q3, q4, q5, q6, q7]; rfl)
        refine pure_ (i := 20) (N := some 58) (v := ?_) (a' := ?_) (bm 45 2097151) rfl rfl (any_of HT_.out (by kernel_rfl)) (fun _ _ _ h => h) (Or.inl ⟨by rfl, ?_⟩) ?_ ?_; rotate_left; · (intro w'; go_simp; with_reducible rfl)
        rotate_left; · (simp only [Act.put, q1, q2, q3, q4, q5, q6, q7]; rfl)
        refine pure_ (i := 21) (N := some 59) (v := ?_) (a' := ?_) (bm 45 4194303) rfl rfl (any_of HT_.out (by kernel_rfl)) (fun _ _ _ h => h) (Or.inl ⟨by rfl, ?_⟩) ?_ ?_; rotate_left; · (intro w'; go_simp; with_reducible rfl)
        rotate_left; · (simp only [Act.put, q1, q2, q3, q4, q5, q6, q7]; rfl)
        refine pure_ (i := 22) (N := some 60) (v := ?_) (a' := ?_) (bm 45 8388607) rfl rfl (any_of HT_.out (by kernel_rfl)) (fun _ _ _ h => h) (Or.inl ⟨by rfl, ?_⟩) ?_ ?_; rotate_left; · (intro w'; go_simp; with_reducible rfl)
        rotate_left; · (simp only [Act.put, q1, q2, q3, q4, q5, q6, q7]; rfl)
        refine pure_ (i := 24) (N := some 62) (v := ?_) (a' := ?_) (bm 45 25165823) rfl rfl (any_of HT_.out (by kernel_rfl)) (fun _ _ _ h => h) (Or.inl ⟨by rfl, ?_⟩) ?_ ?_; rotate_left; · (intro w'; go_simp; with_reducible rfl)
        rotate_left; · (simp only [Act.put, q1, q2, q3, q4, q5, q6, q7]; rfl)
        refine pure_ (i := 25) (N := some 63) (v := ?_) (a' := ?_) (bm 45 58720255) rfl rfl (any_of HT_.out (by kernel_rfl)) (fun _ _ _ h => h) (Or.inl ⟨by rfl, ?_⟩) ?_ ?_; rotate_left; · (intro w'; go_simp; with_reducible rfl)
        rotate_left; · (simp only [Act.put, q1, q2, q3, q4, q5, q6, q7]; rfl)
        refine pure_ (i := 26) (N := some 64) (v := ?_) (a' := ?_) (bm 45 125829119) rfl rfl (any_of HT_.out (by kernel_rfl)) (fun _ _ _ h => h) (Or.inl ⟨by rfl, ?_⟩) ?_ ?_; rotate_left; · (intro w'; go_simp; with_reducible rfl)
        rotate_left; · (simp only [Act.put, q1, q2, q3, q4, q5, q6, q7]; rfl)
        refine pure_ (i := 28) (N := some 66) (v := ?_) (a' := ?_) (bm 45 394264575) rfl rfl (any_of HT_.out (by kernel_rfl)) (fun _ _ _ h => h) (Or.inl ⟨by rfl, ?_⟩) ?_ ?_; rotate_left; · (intro w'; go_simp; with_reducible rfl)
        rotate_left; · (simp only [Act.put, q1, q2, q3, q4, q5, q6, q7]; rfl)
        refine pure_ (i := 29) (N := some 67) (v := ?_) (a' := ?_) (bm 45 931135487) rfl rfl (any_of HT_.out (by kernel_rfl)) (fun _ _ _ h => h) (Or.inl ⟨by rfl, ?_⟩) ?_ ?_; rotate_left; · (intro w'; go_simp; with_reducible rfl)
        rotate_left; · (simp only [Act.put, q1, q2, q3, q4, q5, q6, q7]; rfl)
        refine pure_ (i := 30) (N := some 68) (v := ?_) (a' := ?_) (bm 45 2004877311) rfl rfl (any_of HT_.out (by kernel_rfl)) (fun _ _ _ h => h) (Or.inl ⟨by rfl, ?_⟩) ?_ ?_; rotate_left; · (intro w'; go_simp; with_reducible rfl)
        rotate_left; · (simp only [Act.put, q1, q2, q3, q4, q5, q6, q7]; rfl)
        refine pure_ (i := 31) (N := some 69) (v := ?_) (a' := ?_) (bm 45 4152360959) rfl rfl (any_of HT_.out (by kernel_rfl)) (fun _ _ _ h => h) (Or.inl ⟨by rfl, ?_⟩) ?_ ?_; rotate_left; · (intro w'; go_simp; with_reducible rfl)
        rotate_left; · (simp only [Act.put, q1, q2, q3, q4, q5, q6, q7]; rfl)
        refine pure_ (i := 34) (N := some 72) (v := ?_) (a' := ?_) (bm 45 21332230143) rfl rfl (any_of HT_.out (by kernel_rfl)) (fun _ _ _ h => h) (Or.inl ⟨by rfl, ?_⟩) ?_ ?_; rotate_left; · (intro w'; go_simp; with_reducible rfl)
        rotate_left; · (simp only [Act.put, q1, q2, q3, q4, q5, q6, q7]; rfl)
        refine pure_ (i := 35) (N := some 73) (v := ?_) (a' := ?_) (bm 45 55691968511) rfl rfl (any_of HT_.out (by kernel_rfl)) (fun _ _ _ h => h) (Or.inl ⟨by rfl, ?_⟩) ?_ ?_; rotate_left; · (intro w'; go_simp; with_reducible rfl)
        rotate_left; · (simp only [Act.put, q1, q2, q3, q4, q5, q6, q7]; rfl)
        refine pure_ (i := 36) (N := some 74) (v := ?_) (a' := ?_) (bm 45 124411445247) rfl rfl (any_of HT_.out (by kernel_rfl)) (fun _ _ _ h => h) (Or.inl ⟨by rfl, ?_⟩) ?_ ?_; rotate_left; · (intro w'; go_simp; with_reducible rfl)
        rotate_left; · (simp only [Act.put, q1, q2, q3, q4, q5, q6, q7]; rfl)
        refine pure_ (i := 37) (N := some 75) (v := ?_) (a' := ?_) (bm 45 261850398719) rfl rfl (any_of HT_.out (by kernel_rfl)) (fun _ _ _ h => h) (Or.inl ⟨by rfl, ?_⟩) ?_ ?_; rotate_left; · (intro w'; go_simp; with_reducible rfl)
        rotate_left; · (simp only [Act.put, q1, q2, q3, q4, q5, q6, q7]; rfl)
        refine pure_ (i := 39) (N := some 77) (v := ?_) (a' := ?_) (bm 45 811606212607) rfl rfl (any_of HT_.out (by kernel_rfl)) (fun _ _ _ h => h) (Or.inl ⟨by rfl, ?_⟩) ?_ ?_; rotate_left; · (intro w'; go_simp; with_reducible rfl)
        rotate_left; · (simp only [Act.put, q1, q2, q3, q4, q5, q6, q7]; rfl)
        refine take_ (i := 23) (N := some 61) (v := ?_) (a' := ?_) (bm 45 811614601215) rfl rfl (take_ofW HT_.out HW_.out (by kernel_rfl)) (fun _ _ _ h => h) (Or.inl ⟨by rfl, ?_⟩) hHeld ?_ ?_; rotate_left; · (rintro w' ⟨s0, s1, s2, s3, s4, s5, s6⟩; go_simp; with_reducible rfl)
        rotate_left; · (simp only [Act.put, q1, q2, q3, q4, q5, q6, q7]; rfl)
        refine take_ (i := 27) (N := some 65) (v := ?_) (a' := ?_) (bm 45 811748818943) rfl rfl (take_ofW HT_.out HW_.out (by kernel_rfl)) (fun _ _ _ h => h) (Or.inl ⟨by rfl, ?_⟩) hHeld ?_ ?_; rotate_left; · (rintro w' ⟨s0, s1, s2, s3, s4, s5, s6⟩; go_simp; with_reducible rfl)
        rotate_left; · (simp only [Act.put, q1, q2, q3, q4, q5, q6, q7]; rfl)
        refine pure_ (i := 32) (N := some 70) (v := ?_) (a' := ?_) (bm 45 816043786239) rfl rfl (any_of HT_.out (by kernel_rfl)) (fun _ _ _ h => h) (Or.inl ⟨by rfl, ?_⟩) ?_ ?_; rotate_left; · (intro w'; go_simp; with_reducible rfl)
        rotate_left; · (simp only [Act.put, q1, q2, q3, q4, q5, q6, q7]; rfl)
        refine take_ (i := 38) (N := some 76) (v := ?_) (a' := ?_) (bm 45 1090921693183) rfl rfl (take_ofW HT_.out HW_.out (by kernel_rfl)) (fun _ _ _ h => h) (Or.inl ⟨by rfl, ?_⟩) hHeld ?_ ?_; rotate_left; · (rintro w' ⟨s0, s1, s2, s3, s4, s5, s6⟩; go_simp; with_reducible rfl)
        rotate_left; · (simp only [Act.put, q1, q2, q3, q4, q5, q6, q7]; rfl)
        refine pure_ (i := 40) (N := some 78) (v := ?_) (a' := ?_) (bm 45 2190433320959) rfl rfl (any_of HT_.out (by kernel_rfl)) (fun _ _ _ h => h) (Or.inl ⟨by rfl, ?_⟩) ?_ ?_; rotate_left; · (intro w'; go_simp; with_reducible rfl)
        rotate_left; · (simp only [Act.put, q1, q2, q3, q4, q5, q6, q7]; rfl)
        refine take_ (i := 41) (N := some 79) (v := ?_) (a' := ?_) (bm 45 4389456576511) rfl rfl (take_ofW HT_.out HW_.out (by kernel_rfl)) (fun _ _ _ h => h) (Or.inl ⟨by rfl, ?_⟩) hHeld ?_ ?_; rotate_left; · (rintro w' ⟨s0, s1, s2, s3, s4, s5, s6⟩; go_simp; with_reducible rfl)
        rotate_left; · (simp only [Act.put, q1, q2, q3, q4, q5, q6, q7]; rfl)
        refine one_ (i := 33) (N := some 71) (bm 45 4398046511103) rfl rfl (one_of HT_.out (by kernel_rfl)) (by decide) (fun K hK => ?_)
        refine goes_ Tryd.func56 (by kernel_rfl) rfl #[.int .u32 sd, .string (s.extract i.toNat (wrap64 (i + ln)).toNat), .int .i64 4] (by rfl) rfl rfl (by (try simp only [List.map_toArray, List.map_cons, List.map_nil]); first | done | rfl) ?_
        with_reducible refine (impl_short.calls sd (s.extract i.toNat (wrap64 (i + ln)).toNat) 4 _ _ (HT.out.below (below_step HB0.out HBr.out)) HSH.out).mono ?_
        rintro e w6 ⟨rfl, hb⟩
        refine ⟨_, rfl, ?_⟩
        have n0_ := Aside0.mk (below_step HBr.out hb)
        clear HBr hb
        have HBr := n0_
        clear n0_
        refine hK.out _ _ ⟨pw_cell_below HBr.out n2, pw_cell_below HBr.out n3, pw_cell_below HBr.out n4, pw_cell_below HBr.out n5, pw_cell_below HBr.out ys, pw_cell_below HBr.out yw, pw_cell_below HBr.out yt⟩ (fun hHeld => ?_)
        clear hK K
        refine norm_ (a' := ?_) ?_ ?_
        rotate_left
        · (show Act.put _ (some 71) _ = _; simp only [Act.put, q1, q2, q3, q4, q5, q6, q7]; rfl)
        refine pure_ (i := 42) (N := some 80) (v := ?_) (a' := ?_) (bm 45 8796093022207) rfl rfl (any_of HT_.out (by kernel_rfl)) (fun _ _ _ h => h) (Or.inl ⟨by rfl, ?_⟩) ?_ ?_; rotate_left; · (intro w'; go_simp; with_reducible rfl)
        rotate_left; · (simp only [Act.put, q1, q2, q3, q4, q5, q6, q7]; rfl)
        refine pure_ (i := 43) (N := some 81) (v := ?_) (a' := ?_) (bm 45 17592186044415) rfl rfl (any_of HT_.out (by kernel_rfl)) (fun _ _ _ h => h) (Or.inl ⟨by rfl, ?_⟩) ?_ ?_; rotate_left; · (intro w'; go_simp; with_reducible rfl)
        rotate_left; · (simp only [Act.put, q1, q2, q3, q4, q5, q6, q7]; rfl)
        refine pure_ (i := 44) (N := some 6) (v := ?_) (a' := ?_) (bm 45 35184372088831) rfl rfl (any_of HT_.out (by kernel_rfl)) (fun _ _ _ h => h) (Or.inl ⟨by rfl, ?_⟩) ?_ ?_; rotate_left; · (intro w'; go_simp; with_reducible rfl)
        rotate_left; · (simp only [Act.put, q1, q2, q3, q4, q5, q6, q7]; rfl)
        refine done_ (done_of HT_.out (by kernel_rfl)) ?_
        clear hHeld HT_ HW_
        go_wp2
        go_ret
        exact ⟨rfl, below_step HB0.out HBr.out⟩
      · have e := HRR.out
        rw [if_pos hil, if_neg hxe] at e
        subst e
        clear HRR
        have hxb : (rd sm i == rd wk q) = false := by simp [hxe]
        go_upto_region 6 with fail
        go_quiet (fail)
        go_wp2
        go_ret
        exact ⟨rfl, pw_below_drewN HBr.out _⟩
    · have e := HRR.out
      rw [if_neg hil] at e
      subst e
      clear HRR
      have hb3 : decide (i < (sm.length : Int)) = false := decide_eq_false hil
      go_upto_region 6 with fail
      go_quiet (fail)
      go_wp2
      go_ret
      exact ⟨rfl, pw_below_drewN HBr.out _⟩
theorem impl_delta.own_below {w w' : World} {base b n : Nat} {D : DataW Unit} (h : w.ownsGroups Tryd.prog 22 base 3 .i64 b n D) (hb : Below w.heap.size w w') : w'.ownsGroups Tryd.prog 22 base 3 .i64 b n D :=
  h.kept (row := none) (grown_of_below hb none) (by simp) (fun es clock _ x _ => by cases x.val.ownBlock <;> simp)
theorem impl_delta.idx_ge (wk : List Int) (x : Int) (n : Nat) : ∀ q ∈ impl_delta.idx wk x n, 0 ≤ q := fun q hq => by
  unfold impl_delta.idx at hq
  obtain ⟨j, _, rfl⟩ := List.mem_map.1 hq
  exact Int.natCast_nonneg j
theorem impl_delta.pick_drop (F : Int → Bool) (zs : List Int) (m : Nat) (hm : m < zs.length) (b : Int) : impl_delta.pick F (zs.drop m) b = impl_delta.pick F (zs.drop (m + 1)) (if (b < 0 ∨ rd zs (m : Int) < b) ∧ F (rd zs (m : Int)) = true then rd zs (m : Int) else b) := by
  have e : rd zs (m : Int) = zs[m] := by unfold rd; simp [List.getD_eq_getElem?_getD, List.getElem?_eq_getElem hm]
  rw [List.drop_eq_getElem_cons hm, e]
  rfl
theorem impl_delta.rd_mem (zs : List Int) (m : Nat) (hm : m < zs.length) : rd zs (m : Int) ∈ zs := by
  have e : rd zs (m : Int) = zs[m] := by unfold rd; simp [List.getD_eq_getElem?_getD, List.getElem?_eq_getElem hm]
  rw [e]
  exact List.getElem_mem hm
def impl_delta.T102_2 : Bool × List (List Nat × List Nat) := (true, [([], []), ([0], [0]), ([1], [1]), ([2], [2]), ([], []), ([4], [4]), ([5], [5]), ([6], [6]), ([3, 7], [3, 7]), ([8], [8]), ([], [])])
def impl_delta.B102_2 : List Nat := [0, 1, 3, 7, 0, 16, 48, 112, 255, 511, 0]
theorem impl_delta.tab102_2 : rtab .any (opsOf Tryd.f102 2) = impl_delta.T102_2 := by kernel_rfl
theorem impl_delta.bits102_2 : waitsOk impl_delta.T102_2.2 impl_delta.B102_2 = true := by kernel_rfl
def impl_delta.T102_6 : Bool × List (List Nat × List Nat) := (true, [([], []), ([0], [0]), ([1], [1]), ([2], [2]), ([], []), ([], []), ([4, 5], [4, 5]), ([6], [6]), ([3, 7], [3, 7]), ([8], [8]), ([], [])])
def impl_delta.B102_6 : List Nat := [0, 1, 3, 7, 0, 0, 48, 112, 255, 511, 0]
theorem impl_delta.tab102_6 : rtab .any (opsOf Tryd.f102 6) = impl_delta.T102_6 := by kernel_rfl
theorem impl_delta.bits102_6 : waitsOk impl_delta.T102_6.2 impl_delta.B102_6 = true := by kernel_rfl
set_option maxHeartbeats 8000000 in
set_option maxRecDepth 100000 in
theorem impl_delta.findF {sz rs : Int} {A2 : Option Addr} {c2 : Nat} {wk : List Int} {A3 : Option Addr} {c3 : Nat} {st : List ByteArray} {sd : Int} {s : ByteArray} {full rest : List Int} (hok : impl_delta.ok sz rs wk st sd s full rest = true) (hwf : ∀ x ∈ full ++ rest, 0 ≤ x ∧ x < 4294967296) (i : Int) (hi0 : 0 ≤ i) {w : World} {g : Nat} (hT : Tab w)
    (hr2 : Kd.C (Kd.int .u32) w A2 wk.length wk) (hc2 : wk.length ≤ c2) (hr3 : Kd.C Kd.string w A3 st.length st) (hc3 : st.length ≤ c3) (hfin : impl_delta.Fin w g sz rs A2 c2 wk A3 c3 st sd s full rest) :
    Calls Tryd.prog 102 #[.pointer (some ⟨g, 0, none⟩), .int .i64 i] w fun e w' => e = .returned (.int .i64 (impl_delta.seek (fun q => impl_delta.fits sz rs wk st sd s full rest q i) wk full rest i)) ∧ Below w.heap.size w w' := by
  have MF : ∀ w' q, Below w.heap.size w w' → 0 ≤ q → Calls Tryd.prog 101 #[.pointer (some ⟨g, 0, none⟩), .int .i64 q, .int .i64 i] w' fun e w2 => e = .returned (.bool (impl_delta.fits sz rs wk st sd s full rest q i)) ∧ Below w'.heap.size w' w2 := fun w' q hb hq => impl_delta.fitF hok q i hq hi0 (hT.below hb) (Kd.C_below hr2 hb) hc2 (Kd.C_below hr3 hb) hc3 (impl_delta.Fin_below hfin hb)
  have hwl : wk.length ≤ 2500 := by
    unfold impl_delta.ok at hok
    simp only [Bool.and_eq_true, decide_eq_true_eq] at hok
    omega
  obtain ⟨F, hF⟩ : ∃ F : Int → Bool, F = fun q => impl_delta.fits sz rs wk st sd s full rest q i := ⟨_, rfl⟩
  have MF2 : ∀ w' q, Below w.heap.size w w' → 0 ≤ q → Calls Tryd.prog 101 #[.pointer (some ⟨g, 0, none⟩), .int .i64 q, .int .i64 i] w' fun e w2 => e = .returned (.bool (F q)) ∧ Below w'.heap.size w' w2 := by rw [hF]; exact MF
  rw [← hF]
  have HMF := Aside0.mk MF2
  have HW := Aside0.mk hwf
  have HWL := Aside0.mk hwl
  clear MF MF2 hF hok hT hr2 hc2 hr3 hc3 hwf hwl
  obtain ⟨Af, cf, Ar, cr, b, HG, hf, hcf, hr, hcr, D, hO, hM⟩ := hfin
  obtain ⟨_, _, _, _, _, _, y6, y7, y8⟩ := impl_delta.row9 HG
  have HF := Aside0.mk hf
  have HR := Aside0.mk hr
  have HO := Aside0.mk hO
  have HMp := Aside0.mk hM
  have HGG := Aside0.mk HG
  clear hf hr hO hM HG hcf hcr
  obtain ⟨b1, hb1⟩ : ∃ z, z = if i ≥ (full.length : Int) then (-1 : Int) else impl_delta.pick F (impl_delta.idx wk (rd full i) wk.length) (-1) := ⟨_, rfl⟩
  obtain ⟨b2, hb2⟩ : ∃ z, z = impl_delta.seek F wk full rest i := ⟨_, rfl⟩
  rw [← hb2]
  have hb2' : b2 = if i ≥ (rest.length : Int) then b1 else impl_delta.pick F (impl_delta.idx wk (rd rest i) wk.length) b1 := by rw [hb2, hb1]; rfl
  have HB1 := Aside0.mk hb1
  have HB2 := Aside0.mk hb2'
  clear hb1 hb2 hb2'
  go_enter Tryd.func102, Tryd.ntmps102
  go_upto_region 2 with fail
  refine start_ (n := 11) (S := fun w' => w'.cell? ⟨g, 6, none⟩ = some (.slice Af full.length cf) ∧ w'.cell? ⟨g, 7, none⟩ = some (.slice Ar rest.length cr)) (ds := []) (bm 11 0) (by kernel_rfl) rfl rfl ⟨y6, y7⟩ (fun hHeld => ?_); refine with_tabW impl_delta.tab102_2 impl_delta.bits102_2 (fun HT_ HW_ => ?_)
  have HBr := Aside0.mk (below_drew (Below.refl w.heap.size w))
  generalize w.drew = wd at HBr hHeld ⊢
  refine pure_ (i := 0) (N := some 10) (v := ?_) (a' := ?_) (bm 11 1) rfl rfl (any_of HT_.out (by kernel_rfl)) (fun _ _ _ h => h) (Or.inl ⟨by rfl, ?_⟩) ?_ ?_; rotate_left; · (intro w'; go_simp; with_reducible rfl)
  rotate_left; · (simp only [Act.put, q1, q2, q3, q4, q5, q6, q7]; rfl)
  refine pure_ (i := 1) (N := some 11) (v := ?_) (a' := ?_) (bm 11 3) rfl rfl (any_of HT_.out (by kernel_rfl)) (fun _ _ _ h => h) (Or.inl ⟨by rfl, ?_⟩) ?_ ?_; rotate_left; · (intro w'; go_simp; with_reducible rfl)
  rotate_left; · (simp only [Act.put, q1, q2, q3, q4, q5, q6, q7]; rfl)
  refine pure_ (i := 2) (N := some 12) (v := ?_) (a' := ?_) (bm 11 7) rfl rfl (any_of HT_.out (by kernel_rfl)) (fun _ _ _ h => h) (Or.inl ⟨by rfl, ?_⟩) ?_ ?_; rotate_left; · (intro w'; go_simp; with_reducible rfl)
  rotate_left; · (simp only [Act.put, q1, q2, q3, q4, q5, q6, q7]; rfl)
  refine pure_ (i := 4) (N := some 14) (v := ?_) (a' := ?_) (bm 11 23) rfl rfl (any_of HT_.out (by kernel_rfl)) (fun _ _ _ h => h) (Or.inl ⟨by rfl, ?_⟩) ?_ ?_; rotate_left; · (intro w'; go_simp; with_reducible rfl)
  rotate_left; · (simp only [Act.put, q1, q2, q3, q4, q5, q6, q7]; rfl)
  refine pure_ (i := 5) (N := some 15) (v := ?_) (a' := ?_) (bm 11 55) rfl rfl (any_of HT_.out (by kernel_rfl)) (fun _ _ _ h => h) (Or.inl ⟨by rfl, ?_⟩) ?_ ?_; rotate_left; · (intro w'; go_simp; with_reducible rfl)
  rotate_left; · (simp only [Act.put, q1, q2, q3, q4, q5, q6, q7]; rfl)
  refine pure_ (i := 6) (N := some 16) (v := ?_) (a' := ?_) (bm 11 119) rfl rfl (any_of HT_.out (by kernel_rfl)) (fun _ _ _ h => h) (Or.inl ⟨by rfl, ?_⟩) ?_ ?_; rotate_left; · (intro w'; go_simp; with_reducible rfl)
  rotate_left; · (simp only [Act.put, q1, q2, q3, q4, q5, q6, q7]; rfl)
  refine pure_ (i := 10) (N := some 20) (v := ?_) (a' := ?_) (bm 11 1143) rfl rfl (any_of HT_.out (by kernel_rfl)) (fun _ _ _ h => h) (Or.inl ⟨by rfl, ?_⟩) ?_ ?_; rotate_left; · (intro w'; go_simp; with_reducible rfl)
  rotate_left; · (simp only [Act.put, q1, q2, q3, q4, q5, q6, q7]; rfl)
  refine take_ (i := 3) (N := some 13) (v := ?_) (a' := ?_) (bm 11 1151) rfl rfl (take_ofW HT_.out HW_.out (by kernel_rfl)) (fun _ _ _ h => h) (Or.inl ⟨by rfl, ?_⟩) hHeld ?_ ?_; rotate_left; · (rintro w' ⟨s6, s7⟩; go_simp; with_reducible rfl)
  rotate_left; · (simp only [Act.put, q1, q2, q3, q4, q5, q6, q7]; rfl)
  refine take_ (i := 7) (N := some 17) (v := ?_) (a' := ?_) (bm 11 1279) rfl rfl (take_ofW HT_.out HW_.out (by kernel_rfl)) (fun _ _ _ h => h) (Or.inl ⟨by rfl, ?_⟩) hHeld ?_ ?_; rotate_left; · (rintro w' ⟨s6, s7⟩; go_simp; with_reducible rfl)
  rotate_left; · (simp only [Act.put, q1, q2, q3, q4, q5, q6, q7]; rfl)
  refine one_ (i := 8) (N := some 18) (bm 11 1535) rfl rfl (one_of HT_.out (by kernel_rfl)) (by decide) (fun K hK => ?_)
  refine event_step (by rfl) (v := .slice (some ⟨wd.heap.size, 0, none⟩) 2 2) (w1 := wd.alloc (.cells #[.slice Af full.length cf, .slice Ar rest.length cr] 36)) (by first | (go_simp; done) | (go_simp; rfl)) ?_
  have BG := Aside0.mk (blk_new wd (.cells #[.slice Af full.length cf, .slice Ar rest.length cr] 36 (0, 0)))
  have GG := HBr.out.size
  have n0_ := Aside0.mk (below_alloc HBr.out (.cells #[.slice Af full.length cf, .slice Ar rest.length cr] 36 (0, 0)))
  clear HBr
  have HBr := n0_
  clear n0_
  generalize wd.alloc _ = w6 at BG HBr ⊢
  generalize wd.heap.size = gb at BG GG ⊢
  refine hK.out _ _ ⟨pw_cell_below HBr.out y6, pw_cell_below HBr.out y7⟩ (fun hHeld => ?_)
  clear hK K
  refine norm_ (a' := ?_) ?_ ?_
  rotate_left
  · (show Act.put _ (some 18) _ = _; simp only [Act.put, q1, q2, q3, q4, q5, q6, q7]; rfl)
  refine pure_ (i := 9) (N := some 19) (v := ?_) (a' := ?_) (bm 11 2047) rfl rfl (any_of HT_.out (by kernel_rfl)) (fun _ _ _ h => h) (Or.inl ⟨by rfl, ?_⟩) ?_ ?_; rotate_left; · (intro w'; go_simp; with_reducible rfl)
  rotate_left; · (simp only [Act.put, q1, q2, q3, q4, q5, q6, q7]; rfl)
  refine done_ (done_of HT_.out (by kernel_rfl)) ?_
  clear hHeld HT_ HW_
  have hlt8 := blk_lt HGG.out
  go_wp2
  go_loopg [5, 20] 2 (fun kq v5 v20 w' => ∃ j : Nat, v20 = .int .i64 (j : Int) ∧ Aside0 (j + kq = 2) ∧ v5 = .int .i64 (if j = 0 then (-1) else if j = 1 then b1 else b2) ∧ Aside0 (w'.heap[gb]? = some (.cells #[.slice Af full.length cf, .slice Ar rest.length cr] 36 (0, 0))) ∧ Aside0 (Below w.heap.size w w'))
  case atStart => exact ⟨0, rfl, ⟨by omega⟩, rfl, BG, HBr⟩
  case round =>
    clear BG HBr
    obtain ⟨j, rfl, HJ, rfl, BG, HB⟩ := hrel
    by_cases hj : (j : Int) < 2
    · have hjb : decide ((j : Int) < 2) = true := decide_eq_true hj
      have j0 : (0 : Int) ≤ (j : Int) := by omega
      obtain ⟨k1, rfl⟩ : ∃ k1, gk = k1 + 1 := ⟨gk - 1, by have := HJ.out; omega⟩
      obtain ⟨bj, hbj⟩ : ∃ z : Int, z = (if j = 0 then (-1) else if j = 1 then b1 else b2) := ⟨_, rfl⟩
      rw [← hbj]
      obtain ⟨bn, hbn⟩ : ∃ z : Int, z = (if j + 1 = 0 then (-1) else if j + 1 = 1 then b1 else b2) := ⟨_, rfl⟩
      have hsum : ∃ (As : Option Addr) (cs : Nat) (sm : List Int), wr.cell? ⟨gb, j, none⟩ = some (.slice As sm.length cs) ∧ Kd.C (Kd.int .u32) wr As sm.length sm ∧ bn = (if i ≥ (sm.length : Int) then bj else impl_delta.pick F (impl_delta.idx wk (rd sm i) wk.length) bj) ∧ ∀ x ∈ sm, 0 ≤ x ∧ x < 4294967296 := by
        rcases (by omega : j = 0 ∨ j = 1) with rfl | rfl
        · exact ⟨Af, cf, full, (blk_cell BG.out 0).trans rfl, Kd.C_below HF.out HB.out, by rw [hbn, hbj]; simpa using HB1.out, fun x hx => HW.out x (List.mem_append_left _ hx)⟩
        · exact ⟨Ar, cr, rest, (blk_cell BG.out 1).trans rfl, Kd.C_below HR.out HB.out, by rw [hbn, hbj]; simpa using HB2.out, fun x hx => HW.out x (List.mem_append_right _ hx)⟩
      obtain ⟨As, cs, sm, yc, hsm, hbs, hsw⟩ := hsum
      have HSM := Aside0.mk hsm
      have HBS := Aside0.mk hbs
      have HSW := Aside0.mk hsw
      have HBN := Aside0.mk hbn
      have HBJ := Aside0.mk hbj
      clear hsm hbs hsw hbn hbj
      have hjw : IntKind.i64.wrap ((j : Int) + 1) = ((j + 1 : Nat) : Int) := by rw [IntKind.wrap_i64]; omega
      by_cases hil : i < (sm.length : Int)
      · have hb3 : decide (i ≥ (sm.length : Int)) = false := decide_eq_false (by omega)
        have hb4 : decide ((sm.length : Int) ≤ i) = false := decide_eq_false (by omega)
        have e := HBS.out
        rw [if_neg (by omega)] at e
        have HE := Aside0.mk e
        clear e HBS
        obtain ⟨ad, rfl, ys⟩ := Kd.at_int HSM.out i hi0 hil
        obtain ⟨x, hx⟩ : ∃ x, x = rd sm i := ⟨_, rfl⟩
        have hxw : 0 ≤ x ∧ x < 4294967296 := by
          obtain ⟨n, rfl⟩ := Int.eq_ofNat_of_zero_le hi0
          rw [hx]
          exact HSW.out _ (impl_delta.rd_mem sm n (by omega))
        rw [← hx] at ys HE
        clear hx
        obtain ⟨v, zs, hlook, hat, hoi, hzl, _⟩ := impl_delta.stable (impl_delta.own_below HO.out HB.out) (by have := HWL.out; unfold maxLen; omega) x hxw
        have hz : zs = impl_delta.idx wk x wk.length := impl_delta.rowD_inj hoi ((HMp.out x).symm.trans hat)
        have hzr : ∃ Av cv, v = .slice Av zs.length cv ∧ Kd.C (Kd.int .i64) wr Av zs.length zs := by
          have h1 : (Kd.int .i64).R 3 wr (b + 1) (fun _ => True) v zs := Kd.R_of_own (enc := Value.int .i64) hoi.1 (fun _ _ => trivial)
          obtain ⟨Av, cv, e1, _, h2⟩ := Kd.R_reads h1
          exact ⟨Av, cv, e1, h2⟩
        obtain ⟨Av, cv, rfl, hzc⟩ := hzr
        have hge : ∀ q ∈ zs, 0 ≤ q := by rw [hz]; exact impl_delta.idx_ge _ _ _
        rw [← hz] at HE
        have HZC := Aside0.mk hzc
        have HGE := Aside0.mk hge
        have ym : wr.cell? ⟨g, 8, none⟩ = some (.map (some b)) := (pw_cell_below HB.out y8)
        have hzl2 : zs.length ≤ 2500 := Nat.le_trans hzl HWL.out
        clear hzc hge hat hoi hz hzl
        have hi02 := eq_true hi0
        have hil2 := eq_true hil
        go_upto_region 6 with fail
        refine start_ (n := 11) (S := fun w' => w'.cell? ⟨g, 8, none⟩ = some (.map (some b)) ∧ w'.cell? (ad.add i.toNat) = some (.int .u32 x) ∧ w'.heap[b]? = wr.heap[b]?) (ds := []) (bm 11 0) (by kernel_rfl) rfl rfl ⟨ym, ys, rfl⟩ (fun hHeld => ?_); refine with_tabW impl_delta.tab102_6 impl_delta.bits102_6 (fun HT_ HW_ => ?_)
        have HBr := Aside0.mk (below_drew (Below.refl wr.heap.size wr))
        generalize wr.drew = wd at HBr hHeld ⊢
        refine pure_ (i := 0) (N := some 28) (v := ?_) (a' := ?_) (bm 11 1) rfl rfl (any_of HT_.out (by kernel_rfl)) (fun _ _ _ h => h) (Or.inl ⟨by rfl, ?_⟩) ?_ ?_; rotate_left; · (intro w'; go_simp; with_reducible rfl)
        rotate_left; · (simp only [Act.put, q1, q2, q3, q4, q5, q6, q7]; rfl)
        refine pure_ (i := 1) (N := some 29) (v := ?_) (a' := ?_) (bm 11 3) rfl rfl (any_of HT_.out (by kernel_rfl)) (fun _ _ _ h => h) (Or.inl ⟨by rfl, ?_⟩) ?_ ?_; rotate_left; · (intro w'; go_simp; with_reducible rfl)
        rotate_left; · (simp only [Act.put, q1, q2, q3, q4, q5, q6, q7]; rfl)
        refine pure_ (i := 2) (N := some 30) (v := ?_) (a' := ?_) (bm 11 7) rfl rfl (any_of HT_.out (by kernel_rfl)) (fun _ _ _ h => h) (Or.inl ⟨by rfl, ?_⟩) ?_ ?_; rotate_left; · (intro w'; go_simp; with_reducible rfl)
        rotate_left; · (simp only [Act.put, q1, q2, q3, q4, q5, q6, q7]; rfl)
        refine pure_ (i := 4) (N := some 32) (v := ?_) (a' := ?_) (bm 11 23) rfl rfl (any_of HT_.out (by kernel_rfl)) (fun _ _ _ h => h) (Or.inl ⟨by rfl, ?_⟩) ?_ ?_; rotate_left; · (intro w'; go_simp; with_reducible rfl)
        rotate_left; · (simp only [Act.put, q1, q2, q3, q4, q5, q6, q7]; rfl)
        refine pure_ (i := 5) (N := some 33) (v := ?_) (a' := ?_) (bm 11 55) rfl rfl (any_of HT_.out (by kernel_rfl)) (fun _ _ _ h => h) (Or.inl ⟨by rfl, ?_⟩) ?_ ?_; rotate_left; · (intro w'; go_simp; with_reducible rfl)
        rotate_left; · (simp only [Act.put, q1, q2, q3, q4, q5, q6, q7]; rfl)
        refine pure_ (i := 6) (N := some 34) (v := ?_) (a' := ?_) (bm 11 119) rfl rfl (any_of HT_.out (by kernel_rfl)) (fun _ _ _ h => h) (Or.inl ⟨by rfl, ?_⟩) ?_ ?_; rotate_left; · (intro w'; go_simp; with_reducible rfl)
        rotate_left; · (simp only [Act.put, q1, q2, q3, q4, q5, q6, q7]; rfl)
        refine pure_ (i := 10) (N := some 38) (v := ?_) (a' := ?_) (bm 11 1143) rfl rfl (any_of HT_.out (by kernel_rfl)) (fun _ _ _ h => h) (Or.inl ⟨by rfl, ?_⟩) ?_ ?_; rotate_left; · (intro w'; go_simp; with_reducible rfl)
        rotate_left; · (simp only [Act.put, q1, q2, q3, q4, q5, q6, q7]; rfl)
        refine take_ (i := 3) (N := some 31) (v := ?_) (a' := ?_) (bm 11 1151) rfl rfl (take_ofW HT_.out HW_.out (by kernel_rfl)) (fun _ _ _ h => h) (Or.inl ⟨by rfl, ?_⟩) hHeld ?_ ?_; rotate_left; · (rintro w' ⟨s0, s1, s2⟩; go_simp; with_reducible rfl)
        rotate_left; · (simp only [Act.put, q1, q2, q3, q4, q5, q6, q7]; rfl)
        refine take_ (i := 7) (N := some 35) (v := ?_) (a' := ?_) (bm 11 1279) rfl rfl (take_ofW HT_.out HW_.out (by kernel_rfl)) (fun _ _ _ h => h) (Or.inl ⟨by rfl, ?_⟩) hHeld ?_ ?_; rotate_left; · (rintro w' ⟨s0, s1, s2⟩; go_simp; with_reducible rfl)
        rotate_left; · (simp only [Act.put, q1, q2, q3, q4, q5, q6, q7]; rfl)
        refine take_ (i := 8) (N := some 36) (v := ?_) (a' := ?_) (bm 11 1535) rfl rfl (take_ofW HT_.out HW_.out (by kernel_rfl)) (fun _ _ _ h => h) (Or.inl ⟨by rfl, ?_⟩) hHeld ?_ ?_; rotate_left; · (rintro w' ⟨s0, s1, s2⟩; go_simp; first | with_reducible rfl | (rw [hlook w' s2]; rfl))
        rotate_left; · (simp only [Act.put, q1, q2, q3, q4, q5, q6, q7]; rfl)
        refine pure_ (i := 9) (N := some 37) (v := ?_) (a' := ?_) (bm 11 2047) rfl rfl (any_of HT_.out (by kernel_rfl)) (fun _ _ _ h => h) (Or.inl ⟨by rfl, ?_⟩) ?_ ?_; rotate_left; · (intro w'; go_simp; with_reducible rfl)
        rotate_left; · (simp only [Act.put, q1, q2, q3, q4, q5, q6, q7]; rfl)
        refine done_ (done_of HT_.out (by kernel_rfl)) ?_
        clear hHeld HT_ HW_ hlook
        have n0_ := Aside0.mk (below_step HB.out HBr.out)
        have n1_ := Aside0.mk (Kd.C_below HZC.out HBr.out)
        have n2_ := Aside0.mk ((HBr.out.block gb (blk_lt BG.out)).trans BG.out)
        clear HB HZC BG HBr ym ys yc
        have HB := n0_
        have HZC := n1_
        have BG := n2_
        clear n0_ n1_ n2_
        go_wp2
        have HE0 := Aside0.mk (show bn = impl_delta.pick F (zs.drop 0) bj by rw [List.drop_zero]; exact HE.out)
        clear HE
        go_loopg [5, 38] zs.length (fun kq v5 v38 w' => ∃ (m : Nat) (best : Int), v38 = .int .i64 (m : Int) ∧ v5 = .int .i64 best ∧ Aside0 (m + kq = zs.length) ∧ Aside0 (bn = impl_delta.pick F (zs.drop m) best) ∧ Aside0 (Kd.C (Kd.int .i64) w' Av zs.length zs) ∧ Aside0 (w'.heap[gb]? = some (.cells #[.slice Af full.length cf, .slice Ar rest.length cr] 36 (0, 0))) ∧ Aside0 (Below w.heap.size w w'))
        case atStart => exact ⟨0, bj, rfl, rfl, ⟨by omega⟩, HE0, HZC, BG, HB⟩
        case round =>
          clear HE0 HZC BG HB
          obtain ⟨m, best, rfl, rfl, HI, HE, HZC, BG, HB⟩ := hrel
          by_cases hm : (m : Int) < (zs.length : Int)
          · have hmb : decide ((m : Int) < (zs.length : Int)) = true := decide_eq_true hm
            obtain ⟨k2, rfl⟩ : ∃ k2, gk = k2 + 1 := ⟨gk - 1, by have := HI.out; omega⟩
            have m0 : (0 : Int) ≤ (m : Int) := by omega
            obtain ⟨av, rfl, yq⟩ := Kd.at_int HZC.out (m : Int) m0 hm
            rw [Int.toNat_natCast] at yq
            have hstep := HE.out
            rw [impl_delta.pick_drop F zs m (by omega)] at hstep
            obtain ⟨q, hq⟩ : ∃ q, q = rd zs (m : Int) := ⟨_, rfl⟩
            have hq0 : 0 ≤ q := by rw [hq]; exact HGE.out _ (impl_delta.rd_mem zs m (by omega))
            rw [← hq] at yq hstep
            have HS := Aside0.mk hstep
            clear hq hstep HE
            have hmw : IntKind.i64.wrap ((m : Int) + 1) = ((m + 1 : Nat) : Int) := by rw [IntKind.wrap_i64]; omega
            by_cases c1 : best < 0 ∨ q < best
            · have M : ∀ w', Below w.heap.size w w' → Calls Tryd.prog 101 #[.pointer (some ⟨g, 0, none⟩), .int .i64 q, .int .i64 i] w' fun e w2 => e = .returned (.bool (F q)) ∧ Below w'.heap.size w' w2 := fun w' hb => HMF.out w' q hb hq0
              have M2 := Aside0.mk M
              clear M
              cases hf : F q with
              | true =>
                rw [hf] at M2
                have e := HS.out
                rw [if_pos ⟨c1, hf⟩] at e
                have HE := Aside0.mk e
                clear e HS hf
                by_cases c2 : best < 0
                · have c2b : decide (best < 0) = true := decide_eq_true c2
                  clear c1 c2
                  go_wp2_with (go_at_call 101; refine (M2.out _ HB.out).mono ?_; rintro e w5 ⟨rfl, hb5⟩)
                  have HB5 := Aside0.mk (below_step HB.out hb5)
                  have HZ5 := Aside0.mk (Kd.C_below HZC.out hb5)
                  have BG5 := Aside0.mk ((hb5.block gb (blk_lt BG.out)).trans BG.out)
                  go_roundg k2
                  case measure => omega
                  case rel => exact ⟨m + 1, q, by first | exact congrArg (Value.int .i64) hmw | simp [hmw], rfl, ⟨by have := HI.out; omega⟩, HE, HZ5, BG5, HB5⟩
                · have c2b : decide (best < 0) = false := decide_eq_false c2
                  have c3b : decide (q < best) = true := decide_eq_true (by omega)
                  clear c1 c2
                  go_wp2_with (go_at_call 101; refine (M2.out _ HB.out).mono ?_; rintro e w5 ⟨rfl, hb5⟩)
                  have HB5 := Aside0.mk (below_step HB.out hb5)
                  have HZ5 := Aside0.mk (Kd.C_below HZC.out hb5)
                  have BG5 := Aside0.mk ((hb5.block gb (blk_lt BG.out)).trans BG.out)
                  go_roundg k2
                  case measure => omega
                  case rel => exact ⟨m + 1, q, by first | exact congrArg (Value.int .i64) hmw | simp [hmw], rfl, ⟨by have := HI.out; omega⟩, HE, HZ5, BG5, HB5⟩
              | false =>
                rw [hf] at M2
                have e := HS.out
                rw [if_neg (by rw [hf]; simp)] at e
                have HE := Aside0.mk e
                clear e HS hf
                by_cases c2 : best < 0
                · have c2b : decide (best < 0) = true := decide_eq_true c2
                  clear c1 c2
                  go_wp2_with (go_at_call 101; refine (M2.out _ HB.out).mono ?_; rintro e w5 ⟨rfl, hb5⟩)
                  have HB5 := Aside0.mk (below_step HB.out hb5)
                  have HZ5 := Aside0.mk (Kd.C_below HZC.out hb5)
                  have BG5 := Aside0.mk ((hb5.block gb (blk_lt BG.out)).trans BG.out)
                  go_roundg k2
                  case measure => omega
                  case rel => exact ⟨m + 1, best, by first | exact congrArg (Value.int .i64) hmw | simp [hmw], rfl, ⟨by have := HI.out; omega⟩, HE, HZ5, BG5, HB5⟩
                · have c2b : decide (best < 0) = false := decide_eq_false c2
                  have c3b : decide (q < best) = true := decide_eq_true (by omega)
                  clear c1 c2
                  go_wp2_with (go_at_call 101; refine (M2.out _ HB.out).mono ?_; rintro e w5 ⟨rfl, hb5⟩)
                  have HB5 := Aside0.mk (below_step HB.out hb5)
                  have HZ5 := Aside0.mk (Kd.C_below HZC.out hb5)
                  have BG5 := Aside0.mk ((hb5.block gb (blk_lt BG.out)).trans BG.out)
                  go_roundg k2
                  case measure => omega
                  case rel => exact ⟨m + 1, best, by first | exact congrArg (Value.int .i64) hmw | simp [hmw], rfl, ⟨by have := HI.out; omega⟩, HE, HZ5, BG5, HB5⟩
            · have c2b : decide (best < 0) = false := decide_eq_false (by omega)
              have c3b : decide (q < best) = false := decide_eq_false (by omega)
              have e := HS.out
              rw [if_neg (fun h => c1 h.1)] at e
              have HE := Aside0.mk e
              clear e HS c1
              go_wp2
              go_roundg k2
              case measure => omega
              case rel => exact ⟨m + 1, best, by first | exact congrArg (Value.int .i64) hmw | simp [hmw], rfl, ⟨by have := HI.out; omega⟩, HE, HZC, BG, HB⟩
          · have hmb : decide ((m : Int) < (zs.length : Int)) = false := decide_eq_false hm
            obtain rfl : gk = 0 := by have := HI.out; omega
            obtain rfl : m = zs.length := by have := HI.out; omega
            have e := HE.out
            rw [List.drop_length] at e
            have e2 : bn = best := e
            have HE2 := Aside0.mk (HBN.out.symm.trans e2)
            clear e e2 HE HBN HBJ
            go_wp2
            go_roundg k1
            case measure => omega
            case rel => exact ⟨j + 1, by first | exact congrArg (Value.int .i64) hjw | simp [hjw], ⟨by have := HJ.out; omega⟩, by rw [HE2.out], BG, HB⟩
      · have hb3 : decide (i ≥ (sm.length : Int)) = true := decide_eq_true (by omega)
        have hb4 : decide ((sm.length : Int) ≤ i) = true := decide_eq_true (by omega)
        have e := HBS.out
        rw [if_pos (by omega)] at e
        have HE := Aside0.mk (HBN.out.symm.trans e)
        clear e HBS HBN HBJ
        go_wp2
        go_roundg k1
        case measure => omega
        case rel => exact ⟨j + 1, by first | exact congrArg (Value.int .i64) hjw | simp [hjw], ⟨by have := HJ.out; omega⟩, by rw [HE.out], BG, HB⟩
    · have hjb : decide ((j : Int) < 2) = false := decide_eq_false hj
      obtain rfl : gk = 0 := by have := HJ.out; omega
      obtain rfl : j = 2 := by have := HJ.out; omega
      go_wp2
      go_ret
      exact ⟨rfl, HB.out⟩
theorem impl_delta.pick_fits (F : Int → Bool) : ∀ (l : List Int) (b : Int), impl_delta.pick F l b = b ∨ F (impl_delta.pick F l b) = true
  | [], b => .inl rfl
  | q :: l, b => by
    simp only [impl_delta.pick]
    by_cases h : (b < 0 ∨ q < b) ∧ F q = true
    · rw [if_pos h]
      rcases impl_delta.pick_fits F l q with h1 | h1
      · rw [h1]; exact .inr h.2
      · exact .inr h1
    · rw [if_neg h]; exact impl_delta.pick_fits F l b
theorem impl_delta.seek_fits {F : Int → Bool} {wk full rest : List Int} {i : Int} (h : 0 ≤ impl_delta.seek F wk full rest i) : F (impl_delta.seek F wk full rest i) = true := by
  have key : ∀ b : Int, b = -1 ∨ F b = true → ∀ l, impl_delta.pick F l b = -1 ∨ F (impl_delta.pick F l b) = true := fun b hb l => by
    rcases impl_delta.pick_fits F l b with h1 | h1
    · rw [h1]; exact hb
    · exact .inr h1
  have h2 : impl_delta.seek F wk full rest i = -1 ∨ F (impl_delta.seek F wk full rest i) = true := by
    unfold impl_delta.seek
    have h1 : ∀ b : Int, b = -1 ∨ F b = true → (if i ≥ (rest.length : Int) then b else impl_delta.pick F (impl_delta.idx wk (rd rest i) wk.length) b) = -1 ∨ F (if i ≥ (rest.length : Int) then b else impl_delta.pick F (impl_delta.idx wk (rd rest i) wk.length) b) = true := fun b hb => by
      by_cases h : i ≥ (rest.length : Int)
      · rw [if_pos h]; exact hb
      · rw [if_neg h]; exact key b hb _
    refine h1 _ ?_
    by_cases h : i ≥ (full.length : Int)
    · rw [if_pos h]; exact .inl rfl
    · rw [if_neg h]; exact key _ (.inl rfl) _
  rcases h2 with h2 | h2
  · omega
  · exact h2
theorem impl_delta.fits_lt {sz rs : Int} {wk : List Int} {st : List ByteArray} {sd : Int} {s : ByteArray} {full rest : List Int} {q i : Int} (h : impl_delta.fits sz rs wk st sd s full rest q i = true) : q < (wk.length : Int) := by
  unfold impl_delta.fits at h
  by_cases h1 : q ≥ (wk.length : Int)
  · rw [if_pos h1] at h; cases h
  · omega
def impl_delta.Inv (n : Nat) (l : List S94) : Prop := l ≠ [] → (impl_delta.last l).f0 = 1 → 0 ≤ (impl_delta.last l).f2 ∧ 0 ≤ (impl_delta.last l).f3 ∧ (impl_delta.last l).f2 + (impl_delta.last l).f3 ≤ n
theorem impl_delta.last_snoc (l : List S94) (x : S94) : impl_delta.last (l ++ [x]) = x := by
  unfold impl_delta.last rd_T94
  have e : (((l ++ [x]).length : Int) - 1).toNat = l.length := by simp
  rw [e]; simp
theorem impl_delta.last_set (l : List S94) (x : S94) (h : l ≠ []) : impl_delta.last (impl_delta.set l x) = x := by
  unfold impl_delta.last impl_delta.set rd_T94
  have hp : 0 < l.length := List.length_pos_iff.2 h
  have e : (((l.set (l.length - 1) x).length : Int) - 1).toNat = l.length - 1 := by rw [List.length_set]; omega
  rw [e, List.getD_eq_getElem?_getD, List.getElem?_set_self (by omega)]; rfl
theorem below_weaken2 {w w1 w2 : World} (h : Below w.heap.size w w1) (k : Below w1.heap.size w1 w2) : Below w.heap.size w w2 := below_step h k
/-- The last token's cells, and what a store into two of them makes of the row. -/
theorem impl_delta.lastR {w : World} {base go cap : Nat} {l : List S94} {m : Nat} (h : Kd.R k94 94 w base (fun _ => True) (.slice (some ⟨go, 0, none⟩) l.length cap) l) (hm : l.length = m + 1) :
    w.cell? ⟨go, m * 4, none⟩ = some (.int .i64 (impl_delta.last l).f0) ∧ w.cell? ⟨go, m * 4 + 1, none⟩ = some (.string (impl_delta.last l).f1) ∧ w.cell? ⟨go, m * 4 + 2, none⟩ = some (.int .i64 (impl_delta.last l).f2) ∧ w.cell? ⟨go, m * 4 + 3, none⟩ = some (.int .i64 (impl_delta.last l).f3) ∧
    w.frozen? ⟨go, m * 4 + 1, none⟩ = false ∧ w.frozen? ⟨go, m * 4 + 3, none⟩ = false ∧
    (∀ v, Kd.R k94 94 (w.setCell ⟨go, m * 4 + 3, none⟩ (.int .i64 v)) base (fun _ => True) (.slice (some ⟨go, 0, none⟩) (impl_delta.set l ⟨(impl_delta.last l).f0, (impl_delta.last l).f1, (impl_delta.last l).f2, v⟩).length cap) (impl_delta.set l ⟨(impl_delta.last l).f0, (impl_delta.last l).f1, (impl_delta.last l).f2, v⟩)) ∧
    (∀ t, Kd.R k94 94 (w.setCell ⟨go, m * 4 + 1, none⟩ (.string t)) base (fun _ => True) (.slice (some ⟨go, 0, none⟩) (impl_delta.set l ⟨(impl_delta.last l).f0, t, (impl_delta.last l).f2, (impl_delta.last l).f3⟩).length cap) (impl_delta.set l ⟨(impl_delta.last l).f0, t, (impl_delta.last l).f2, (impl_delta.last l).f3⟩)) := by
  have e : ((l.length : Int) - 1) = (m : Int) := by omega
  have e2 : l.length - 1 = m := by omega
  obtain ⟨c, hcl, hM, hcc, hfr⟩ := Kd.R_elem h z94 (m : Int) (by omega) (by omega)
  have hlast : impl_delta.last l = l.getD m z94 := by unfold impl_delta.last rd_T94; rw [e, Int.toNat_natCast]
  rw [Int.toNat_natCast, ← hlast] at hM
  rw [Int.toNat_natCast] at hcc hfr
  obtain rfl := k94_openM hM
  have hsz : k94.sz = 4 := rfl
  rw [hsz] at hcc hfr
  refine ⟨hcc 0 _ rfl, hcc 1 _ rfl, hcc 2 _ rfl, hcc 3 _ rfl, hfr 1, hfr 3, fun v => ?_, fun t => ?_⟩
  · have := (Kd.R_seg h (m : Int) (by omega) (by omega) (seg := [.int .i64 v]) (j := 3) hcl (by rw [Int.toNat_natCast, hsz]; exact hcc) (show 4 ≤ 4 by decide) (x' := (⟨(impl_delta.last l).f0, (impl_delta.last l).f1, (impl_delta.last l).f2, v⟩ : S94)) (k94_mkM _ _ (fun k => True ∧ k ≠ go) _) (fun _ hk => hk)).1
    rw [Int.toNat_natCast, hsz] at this
    unfold impl_delta.set
    rw [e2, List.length_set]
    exact this
  · have := (Kd.R_seg h (m : Int) (by omega) (by omega) (seg := [.string t]) (j := 1) hcl (by rw [Int.toNat_natCast, hsz]; exact hcc) (show 2 ≤ 4 by decide) (x' := (⟨(impl_delta.last l).f0, t, (impl_delta.last l).f2, (impl_delta.last l).f3⟩ : S94)) (k94_mkM _ _ (fun k => True ∧ k ≠ go) _) (fun _ hk => hk)).1
    rw [Int.toNat_natCast, hsz] at this
    unfold impl_delta.set
    rw [e2, List.length_set]
    exact this
section
variable {sz rs : Int} {wk : List Int} {st : List ByteArray} {sd : Int} {s : ByteArray} {full rest : List Int} {i : Int} {l : List S94}
theorem impl_delta.step_ext (h : l ≠ [] ∧ (impl_delta.last l).f0 = 1 ∧ impl_delta.fits sz rs wk st sd s full rest (wrap64 ((impl_delta.last l).f2 + (impl_delta.last l).f3)) i = true) : impl_delta.step sz rs wk st sd s full rest i l = (wrap64 (i + impl_delta.long sz rs wk.length (wrap64 ((impl_delta.last l).f2 + (impl_delta.last l).f3))), impl_delta.set l ⟨(impl_delta.last l).f0, (impl_delta.last l).f1, (impl_delta.last l).f2, wrap64 ((impl_delta.last l).f3 + 1)⟩) := if_pos h
theorem impl_delta.step_copy (h : ¬ (l ≠ [] ∧ (impl_delta.last l).f0 = 1 ∧ impl_delta.fits sz rs wk st sd s full rest (wrap64 ((impl_delta.last l).f2 + (impl_delta.last l).f3)) i = true)) (hq : impl_delta.seek (fun q => impl_delta.fits sz rs wk st sd s full rest q i) wk full rest i ≥ 0) :
    impl_delta.step sz rs wk st sd s full rest i l = (wrap64 (i + impl_delta.long sz rs wk.length (impl_delta.seek (fun q => impl_delta.fits sz rs wk st sd s full rest q i) wk full rest i)), l ++ [⟨1, (⟨#[]⟩ : ByteArray), impl_delta.seek (fun q => impl_delta.fits sz rs wk st sd s full rest q i) wk full rest i, 1⟩]) := (if_neg h).trans (if_pos hq)
theorem impl_delta.step_grow (h : ¬ (l ≠ [] ∧ (impl_delta.last l).f0 = 1 ∧ impl_delta.fits sz rs wk st sd s full rest (wrap64 ((impl_delta.last l).f2 + (impl_delta.last l).f3)) i = true)) (hq : ¬ impl_delta.seek (fun q => impl_delta.fits sz rs wk st sd s full rest q i) wk full rest i ≥ 0) (h2 : l ≠ [] ∧ (impl_delta.last l).f0 = 0 ∧ (impl_delta.last l).f1.size < 100) :
    impl_delta.step sz rs wk st sd s full rest i l = (wrap64 (i + 1), impl_delta.set l ⟨(impl_delta.last l).f0, (impl_delta.last l).f1 ++ s.extract i.toNat (wrap64 (i + 1)).toNat, (impl_delta.last l).f2, (impl_delta.last l).f3⟩) := (if_neg h).trans ((if_neg hq).trans (if_pos h2))
theorem impl_delta.step_lit (h : ¬ (l ≠ [] ∧ (impl_delta.last l).f0 = 1 ∧ impl_delta.fits sz rs wk st sd s full rest (wrap64 ((impl_delta.last l).f2 + (impl_delta.last l).f3)) i = true)) (hq : ¬ impl_delta.seek (fun q => impl_delta.fits sz rs wk st sd s full rest q i) wk full rest i ≥ 0) (h2 : ¬ (l ≠ [] ∧ (impl_delta.last l).f0 = 0 ∧ (impl_delta.last l).f1.size < 100)) :
    impl_delta.step sz rs wk st sd s full rest i l = (wrap64 (i + 1), l ++ [⟨0, s.extract i.toNat (wrap64 (i + 1)).toNat, 0, 0⟩]) := (if_neg h).trans ((if_neg hq).trans (if_neg h2))
end
theorem impl_delta.Inv_snoc {n : Nat} (l : List S94) (x : S94) (h : x.f0 = 1 → 0 ≤ x.f2 ∧ 0 ≤ x.f3 ∧ x.f2 + x.f3 ≤ n) : impl_delta.Inv n (l ++ [x]) := fun _ h1 => by rw [impl_delta.last_snoc] at h1 ⊢; exact h h1
theorem impl_delta.Inv_set {n : Nat} (l : List S94) (x : S94) (hl : l ≠ []) (h : x.f0 = 1 → 0 ≤ x.f2 ∧ 0 ≤ x.f3 ∧ x.f2 + x.f3 ≤ n) : impl_delta.Inv n (impl_delta.set l x) := fun _ h1 => by rw [impl_delta.last_set l x hl] at h1 ⊢; exact h h1
theorem impl_delta.w1 {x : Int} (h : -1000000 ≤ x ∧ x ≤ 1000000) : IntKind.i64.wrap x = x := by rw [IntKind.wrap_i64]; omega
theorem impl_delta.w2 {x : Int} (h : -1000000 ≤ x ∧ x ≤ 1000000) : wrap64 x = x := by unfold wrap64; omega
def impl_delta.T78_19 : Bool × List (List Nat × List Nat) := (true, [([], []), ([0], [0]), ([1], [1]), ([2], [2]), ([], []), ([], []), ([], []), ([6], [6]), ([4, 5, 7], [4, 5, 7]), ([3, 8], [3, 8]), ([0, 0, 1, 2, 3, 4, 5, 6, 7, 8, 9], [0]), ([10, 0, 1, 2, 3, 4, 5, 6, 7, 8, 9], [10]), ([11, 9, 0, 1, 2, 3, 4, 5, 6, 7, 8, 9], [9, 11])])
def impl_delta.B78_19 : List Nat := [0, 1, 3, 7, 0, 0, 0, 64, 240, 511, 1023, 2047, 4095]
theorem impl_delta.tab78_19 : rtab .any (opsOf Tryd.f78 19) = impl_delta.T78_19 := by kernel_rfl
theorem impl_delta.bits78_19 : waitsOk impl_delta.T78_19.2 impl_delta.B78_19 = true := by kernel_rfl
set_option maxHeartbeats 16000000 in
set_option maxRecDepth 100000 in
theorem impl_delta.calls (k : Nat) (sz rs : Int) (A2 : Option Addr) (c2 : Nat) (wk : List Int) (A3 : Option Addr) (c3 : Nat) (st : List ByteArray) (sd : Int) (s : ByteArray) (r : List S94) (w : World) (hT : Tab w)
    (hr2 : Kd.C (Kd.int .u32) w A2 wk.length wk) (hc2 : wk.length ≤ c2) (hr3 : Kd.C Kd.string w A3 st.length st) (hc3 : st.length ≤ c3) (h : impl_delta.f k sz rs wk st sd s = some r) :
    Calls Tryd.prog 78 #[.agg #[.int .i64 sz, .int .i64 rs, .slice A2 wk.length c2, .slice A3 st.length c3], .int .u32 sd, .string s] w fun e w' => ∃ v0_ : Value, e = .returned (v0_) ∧ Kd.R k94 94 w' w.heap.size (fun _ => True) v0_ r ∧ Below w.heap.size w w' := by
  unfold impl_delta.f at h
  obtain ⟨full, hfull, h⟩ := Option.bind_eq_some_iff.mp h
  obtain ⟨rest, hrest, h⟩ := Option.bind_eq_some_iff.mp h
  by_cases hok : impl_delta.ok sz rs wk st sd s full rest = true
  case neg => rw [if_neg hok] at h; cases h
  rw [if_pos hok] at h
  have HRUN := Aside0.mk (Option.some.inj h)
  have hok2 := hok
  unfold impl_delta.ok at hok2
  simp only [Bool.and_eq_true, decide_eq_true_eq, List.all_eq_true] at hok2
  obtain ⟨⟨hz1, hz2, hs1, hs2, hw1, hw2, hsd, hdz, hfl, hrl⟩, hall⟩ := hok2
  have hwk : ∀ x ∈ wk, 0 ≤ x ∧ x < 4294967296 := fun x hx => hall x (List.mem_append_left _ hx)
  have hwf : ∀ x ∈ full ++ rest, 0 ≤ x ∧ x < 4294967296 := fun x hx => hall x (List.mem_append_right _ hx)
  have HOK := Aside0.mk hok
  have HNEW := Aside0.mk (show ∀ w1, Below w.heap.size w w1 → Calls Tryd.prog 100 #[.agg #[.int .i64 sz, .int .i64 rs, .slice A2 wk.length c2, .slice A3 st.length c3], .int .u32 sd, .string s] w1 fun e w' => ∃ g, e = .returned (.pointer (some ⟨g, 0, none⟩)) ∧ w1.heap.size ≤ g ∧ impl_delta.Fin w' g sz rs A2 c2 wk A3 c3 st sd s full rest ∧ Below w1.heap.size w1 w' from fun w1 hb => impl_delta.newF k sz rs A2 c2 wk A3 c3 st sd s full rest w1 (Kd.C_below hr2 hb) hw1 hwk hfull hrest)
  have HR2 := Aside0.mk hr2
  have HR3 := Aside0.mk hr3
  have HC2 := Aside0.mk hc2
  have HC3 := Aside0.mk hc3
  have HT := Aside0.mk hT
  have HWF := Aside0.mk hwf
  have hlb : ∀ q : Int, 1 ≤ impl_delta.long sz rs wk.length q ∧ impl_delta.long sz rs wk.length q ≤ 256 := fun q => by
    unfold impl_delta.long
    split
    · split <;> omega
    · omega
  have HLB := Aside0.mk hlb
  clear hT hr2 hr3 hc2 hc3 hwf hwk hall hfull hrest h hok hw2 hfl hrl hz1 hz2 hs1 hs2 hsd hlb
  go_enter Tryd.func78, Tryd.ntmps78
  go_upto_region 1 with fail
  have B3 := Aside0.mk (blk_new w (.cells #[.int .i64 sz, .int .i64 rs, .slice A2 wk.length c2, .slice A3 st.length c3] 39 (0, 0)))
  have HB := Aside0.mk (below_alloc (Below.refl w.heap.size w) (.cells #[.int .i64 sz, .int .i64 rs, .slice A2 wk.length c2, .slice A3 st.length c3] 39 (0, 0)))
  generalize w.alloc _ = W1 at B3 HB ⊢
  obtain ⟨y0, y1, y2, y3⟩ := impl_delta.row4 B3.out
  go_wp2_with (go_at_call 100; refine (HNEW.out _ HB.out).mono ?_; rintro e w2 ⟨g, rfl, hg, hfin, hb⟩)
  have HB0 := Aside0.mk (below_step HB.out hb)
  have B30 := Aside0.mk ((hb.block _ (blk_lt B3.out)).trans B3.out)
  have MFit := Aside0.mk (show ∀ (w' : World) (q : Int), Below w2.heap.size w2 w' → 0 ≤ q → ∀ i : Int, 0 ≤ i → i ≤ 20256 → Calls Tryd.prog 101 #[.pointer (some ⟨g, 0, none⟩), .int .i64 q, .int .i64 i] w' fun e w3 => e = .returned (.bool (impl_delta.fits sz rs wk st sd s full rest q i)) ∧ Below w'.heap.size w' w3 from fun w' q hb' hq i hi _ => impl_delta.fitF HOK.out q i hq hi (HT.out.below (below_step HB0.out hb')) (Kd.C_below HR2.out (below_step HB0.out hb')) HC2.out (Kd.C_below HR3.out (below_step HB0.out hb')) HC3.out (impl_delta.Fin_below hfin hb'))
  have MFind := Aside0.mk (show ∀ (w' : World), Below w2.heap.size w2 w' → ∀ i : Int, 0 ≤ i → i ≤ 20256 → Calls Tryd.prog 102 #[.pointer (some ⟨g, 0, none⟩), .int .i64 i] w' fun e w3 => e = .returned (.int .i64 (impl_delta.seek (fun q => impl_delta.fits sz rs wk st sd s full rest q i) wk full rest i)) ∧ Below w'.heap.size w' w3 from fun w' hb' i hi _ => impl_delta.findF HOK.out HWF.out i hi (HT.out.below (below_step HB0.out hb')) (Kd.C_below HR2.out (below_step HB0.out hb')) HC2.out (Kd.C_below HR3.out (below_step HB0.out hb')) HC3.out (impl_delta.Fin_below hfin hb'))
  have MLong := Aside0.mk (show ∀ (w' : World) (q : Int), Below w2.heap.size w2 w' → Calls Tryd.prog 73 #[.agg #[.int .i64 sz, .int .i64 rs, .slice A2 wk.length c2, .slice A3 st.length c3], .int .i64 q] w' fun e w3 => e = .returned (.int .i64 (impl_delta.long sz rs wk.length q)) ∧ Below w'.heap.size w' w3 from fun w' q hb' => impl_Sig_long.calls sz rs A2 c2 wk A3 c3 st q _ w' (Kd.C_below HR2.out (below_step HB0.out hb')) HC2.out (Kd.C_below HR3.out (below_step HB0.out hb')) HC3.out (impl_delta.long_some _ _ _ _ _))
  have hsz2 := HB0.out.size
  have hlt3 : w.heap.size < w2.heap.size := Nat.lt_of_lt_of_le (blk_lt B3.out) hb.size
  clear HNEW HB B3 y0 y1 y2 y3 hb hfin hg HR2 HR3 HC2 HC3 HT HWF HOK
  obtain ⟨STEP, hSTEP⟩ : ∃ z, z = impl_delta.step sz rs wk st sd s full rest := ⟨_, rfl⟩
  obtain ⟨RUN, hRUN⟩ : ∃ z, z = impl_delta.run sz rs wk st sd s full rest := ⟨_, rfl⟩
  have HRS : Aside0 (∀ (d : Nat) (i : Int) (l : List S94), RUN (d + 1) i l = if i < (s.size : Int) then RUN d (STEP i l).1 (STEP i l).2 else l) := ⟨fun d i l => by rw [hRUN, hSTEP]; rfl⟩
  have HR0 : Aside0 (∀ (i : Int) (l : List S94), RUN 0 i l = l) := ⟨fun i l => by rw [hRUN]; rfl⟩
  rw [← hRUN] at HRUN
  have HSTEP := Aside0.mk hSTEP
  clear hSTEP hRUN
  go_loopg [8, 9] s.size (fun kq v8 v9 w' => ∃ (i : Int) (l : List S94), v9 = .int .i64 i ∧ Aside0 (0 ≤ i ∧ i ≤ 20256 ∧ (s.size : Int) ≤ i + kq) ∧ Aside0 (RUN kq i l = r) ∧ Aside0 (impl_delta.Inv wk.length l) ∧ Aside0 ((l.length : Int) ≤ i) ∧ Aside0 (Kd.R k94 94 w' w2.heap.size (fun _ => True) v8 l) ∧ Aside0 (Below w2.heap.size w2 w'))
  case atStart => exact ⟨0, [], rfl, ⟨by omega⟩, HRUN, ⟨fun h => absurd rfl h⟩, ⟨by simp⟩, ⟨Kd.R_nil _ _ _ _ _⟩, ⟨Below.refl _ _⟩⟩
  case round =>
    clear HRUN
    obtain ⟨i, l, rfl, HI, HRUN, HINV, HLEN, HR, HB⟩ := hrel
    by_cases hlt : i < (s.size : Int)
    · have hltb : decide (i < (s.size : Int)) = true := decide_eq_true hlt
      obtain ⟨k1, rfl⟩ : ∃ k1, gk = k1 + 1 := ⟨gk - 1, by have := HI.out; omega⟩
      have hi0 : 0 ≤ i := HI.out.1
      have hi1 : i ≤ 20256 := HI.out.2.1
      have e := HRUN.out
      rw [HRS.out, if_pos hlt] at e
      have HRUN1 := Aside0.mk e
      clear e HRUN
      obtain ⟨q, hq⟩ : ∃ q, q = impl_delta.seek (fun q => impl_delta.fits sz rs wk st sd s full rest q i) wk full rest i := ⟨_, rfl⟩
      have MFq := Aside0.mk (show ∀ w', Below w2.heap.size w2 w' → Calls Tryd.prog 102 #[.pointer (some ⟨g, 0, none⟩), .int .i64 i] w' fun e w3 => e = .returned (.int .i64 q) ∧ Below w'.heap.size w' w3 from fun w' hb => by rw [hq]; exact MFind.out w' hb i hi0 hi1)
      have HQ := Aside0.mk hq
      have hqf : 0 ≤ q → q < (wk.length : Int) := fun h0 => by rw [hq] at h0 ⊢; exact impl_delta.fits_lt (impl_delta.seek_fits (F := fun q => impl_delta.fits sz rs wk st sd s full rest q i) h0)
      have HQF := Aside0.mk hqf
      obtain ⟨ln, hln⟩ : ∃ z, z = impl_delta.long sz rs wk.length q := ⟨_, rfl⟩
      have hlnb : 1 ≤ ln ∧ ln ≤ 256 := by rw [hln]; exact HLB.out q
      have MLq := Aside0.mk (show ∀ w', Below w2.heap.size w2 w' → Calls Tryd.prog 73 #[.agg #[.int .i64 sz, .int .i64 rs, .slice A2 wk.length c2, .slice A3 st.length c3], .int .i64 q] w' fun e w3 => e = .returned (.int .i64 ln) ∧ Below w'.heap.size w' w3 from fun w' hb => by rw [hln]; exact MLong.out w' q hb)
      have HLN := Aside0.mk hln
      have HLNB := Aside0.mk hlnb
      clear hq hqf hln hlnb MFind
      have hcopy : ∀ l : List S94, q ≥ 0 → ¬ (l ≠ [] ∧ (impl_delta.last l).f0 = 1 ∧ impl_delta.fits sz rs wk st sd s full rest (wrap64 ((impl_delta.last l).f2 + (impl_delta.last l).f3)) i = true) → RUN k1 (STEP i l).1 (STEP i l).2 = r → RUN k1 (i + ln) (l ++ [⟨1, (⟨#[]⟩ : ByteArray), q, 1⟩]) = r := fun l h0 hn e => by
        rw [HSTEP.out, impl_delta.step_copy hn (by rw [← HQ.out]; exact h0), ← HQ.out, ← HLN.out, impl_delta.w2 (by have := HLNB.out; omega)] at e
        exact e
      have HCOPY := Aside0.mk hcopy
      have hlit : ∀ l : List S94, ¬ q ≥ 0 → ¬ (l ≠ [] ∧ (impl_delta.last l).f0 = 1 ∧ impl_delta.fits sz rs wk st sd s full rest (wrap64 ((impl_delta.last l).f2 + (impl_delta.last l).f3)) i = true) → ¬ (l ≠ [] ∧ (impl_delta.last l).f0 = 0 ∧ (impl_delta.last l).f1.size < 100) → RUN k1 (STEP i l).1 (STEP i l).2 = r → RUN k1 (wrap64 (i + 1)) (l ++ [⟨0, s.extract i.toNat (wrap64 (i + 1)).toNat, 0, 0⟩]) = r := fun l h0 hn hn2 e => by
        rw [HSTEP.out, impl_delta.step_lit hn (by rw [← HQ.out]; exact h0) hn2] at e
        exact e
      have HLIT := Aside0.mk hlit
      clear hcopy hlit
      have hwi : IntKind.i64.wrap (i + 1) = wrap64 (i + 1) := i64_w _
      have HWV := Aside0.mk (show wrap64 (i + 1) = i + 1 from impl_delta.w2 (by omega))
      have p1 : i ≤ wrap64 (i + 1) := by have := HWV.out; omega
      have p2 : wrap64 (i + 1) ≤ (s.size : Int) := by have := HWV.out; omega
      have p3 : (0 : Int) ≤ wrap64 (i + 1) := by have := HWV.out; omega
      have HI1 := Aside0.mk (show 0 ≤ wrap64 (i + 1) ∧ wrap64 (i + 1) ≤ 20256 ∧ (s.size : Int) ≤ wrap64 (i + 1) + (k1 : Int) by have := HI.out; have := HWV.out; omega)
      obtain ⟨A8, c8, rfl, _, _⟩ := Kd.R_reads HR.out
      have hP : ∃ P : Value, (l = [] ∧ P = .pointer none) ∨ (l ≠ [] ∧ ∃ go m, l.length = m + 1 ∧ A8 = some ⟨go, 0, none⟩ ∧ w2.heap.size ≤ go ∧ P = .pointer (some ⟨go, m * 4, none⟩)) := by
        by_cases hl : l = []
        · exact ⟨_, .inl ⟨hl, rfl⟩⟩
        · have hp := List.length_pos_iff.2 hl
          obtain ⟨go, cap, e, hb, _⟩ := Kd.R_form HR.out hp
          exact ⟨_, .inr ⟨hl, go, l.length - 1, by omega, by injection e, hb, rfl⟩⟩
      obtain ⟨P, hP⟩ := hP
      go_upto_if 23 with (fail)
      go_cut [10] (fun v10 wc => v10 = P ∧ Aside0 (wr = wc))
      case first =>
        rcases hP with ⟨hl, rfl⟩ | ⟨hl, go, m, hm, rfl, hgo, rfl⟩
        · have hpos : decide ((l.length : Int) > 0) = false := decide_eq_false (by rw [hl]; simp)
          have hpos2 : decide (0 < (l.length : Int)) = false := hpos
          have hpos3 : ¬ 0 < l.length := by rw [hl]; simp
          clear hl
          go_wp2
          go_meet
          case rel => exact ⟨rfl, ⟨rfl⟩⟩
        · have hpos : decide ((l.length : Int) > 0) = true := decide_eq_true (by omega)
          have hpos2 : decide (0 < (l.length : Int)) = true := decide_eq_true (by omega)
          have hpos3 : 0 < l.length := by omega
          have hwm : IntKind.i64.wrap ((l.length : Int) - 1) = (m : Int) := by have := HLEN.out; rw [impl_delta.w1 (by omega)]; omega
          have hm0 : (0 : Int) ≤ (m : Int) := by omega
          have hm1 : (m : Int) < (l.length : Int) := by omega
          clear hm
          go_wp2
          go_meet
          case rel => exact ⟨by first | rfl | simp, ⟨rfl⟩⟩
      case rest =>
        obtain ⟨rfl, ⟨rfl⟩⟩ := hcut
        have HPP := Aside0.mk hP
        clear hP
        obtain ⟨kb, hkb⟩ : ∃ b : Bool, b = decide (l ≠ [] ∧ (impl_delta.last l).f0 = 1) := ⟨_, rfl⟩
        have HKB := Aside0.mk hkb
        clear hkb
        go_upto_region 8 with fail
        go_cut [37] (fun v37 wc => v37 = .bool kb ∧ Aside0 (wr = wc))
        case first =>
          rcases HPP.out with ⟨hl, rfl⟩ | ⟨hl, go, m, hm, rfl, hgo, rfl⟩
          · obtain rfl : kb = false := by rw [HKB.out]; exact decide_eq_false (fun h => h.1 hl)
            clear HPP HKB hl
            go_wp2
            go_meet
            case rel => exact ⟨by first | rfl | simp, ⟨rfl⟩⟩
          · obtain ⟨c0, _⟩ := impl_delta.lastR HR.out hm
            by_cases hk : (impl_delta.last l).f0 = 1
            · obtain rfl : kb = true := by rw [HKB.out]; exact decide_eq_true ⟨hl, hk⟩
              rw [hk] at c0
              clear HPP HKB hl hk hm
              go_wp2
              go_meet
              case rel => exact ⟨by first | rfl | simp, ⟨rfl⟩⟩
            · obtain rfl : kb = false := by rw [HKB.out]; exact decide_eq_false (fun h => hk h.2)
              have hkb : ((impl_delta.last l).f0 == 1) = false := by simp [hk]
              obtain ⟨f0, hf0⟩ : ∃ z, z = (impl_delta.last l).f0 := ⟨_, rfl⟩
              rw [← hf0] at c0 hkb
              clear HPP HKB hl hk hm hf0
              go_wp2
              go_meet
              case rel => exact ⟨by first | rfl | simp [hkb], ⟨rfl⟩⟩
        case rest =>
        obtain ⟨rfl, ⟨rfl⟩⟩ := hcut
        go_upto_if 37 with (fail)
        go_cut [9] (fun v9 wc => v9 = .int .i64 i ∧ Aside0 (¬ (l ≠ [] ∧ (impl_delta.last l).f0 = 1 ∧ impl_delta.fits sz rs wk st sd s full rest (wrap64 ((impl_delta.last l).f2 + (impl_delta.last l).f3)) i = true)) ∧ Aside0 (Kd.R k94 94 wc w2.heap.size (fun _ => True) (.slice A8 l.length c8) l) ∧ Aside0 (Below w2.heap.size w2 wc))
        case first =>
          cases kb with
          | false =>
            go_wp2
            go_meet
            case rel => exact ⟨rfl, ⟨fun h => of_decide_eq_false HKB.out.symm ⟨h.1, h.2.1⟩⟩, HR, HB⟩
          | true =>
            obtain ⟨hl, hk⟩ := of_decide_eq_true HKB.out.symm
            rcases HPP.out with ⟨hl2, _⟩ | ⟨_, go, m, hm, rfl, hgo, rfl⟩
            · exact absurd hl2 hl
            clear HPP HKB
            obtain ⟨c0, c1, c2', c3', f1, f3, SC, ST⟩ := impl_delta.lastR HR.out hm
            obtain ⟨x, hx⟩ : ∃ x, x = impl_delta.last l := ⟨_, rfl⟩
            rw [← hx] at c0 c1 c2' c3' SC hk
            have HX := Aside0.mk hx
            have HL := Aside0.mk hl
            have HM := Aside0.mk hm
            have HK := Aside0.mk hk
            clear ST SC hl hm f1 f3
            have hinv := HINV.out HL.out (by rw [← hx]; exact hk)
            rw [← hx] at hinv
            obtain ⟨nx, hnx⟩ : ∃ z, z = wrap64 (x.f2 + x.f3) := ⟨_, rfl⟩
            have hnxw : IntKind.i64.wrap (x.f2 + x.f3) = nx := by rw [hnx]; exact i64_w _
            have hnxe : nx = x.f2 + x.f3 := by rw [hnx]; exact impl_delta.w2 (by omega)
            have hnx0 : 0 ≤ nx := by omega
            obtain ⟨fb, hfb⟩ : ∃ b, b = impl_delta.fits sz rs wk st sd s full rest nx i := ⟨_, rfl⟩
            have MFx := Aside0.mk (show ∀ w', Below w2.heap.size w2 w' → Calls Tryd.prog 101 #[.pointer (some ⟨g, 0, none⟩), .int .i64 nx, .int .i64 i] w' fun e w3 => e = .returned (.bool fb) ∧ Below w'.heap.size w' w3 from fun w' hb => by rw [hfb]; exact MFit.out w' nx hb hnx0 i hi0 hi1)
            have HFB := Aside0.mk hfb
            have HNX := Aside0.mk hnx
            have HNE := Aside0.mk hnxe
            have HIN := Aside0.mk hinv
            clear hk hx hinv hnx hnxe hfb
            go_upto_region 9 with fail
            go_quiet (fail)
            generalize hq_ : World.drewN wr _ = wd
            have n0_ := Aside0.mk (below_at hq_ HB.out)
            have n1_ := Aside0.mk (Kd.R_at hq_ HR.out)
            clear HB HR c0 c1 c2' c3' hq_
            have HB := n0_
            have HR := n1_
            clear n0_ n1_
            cases fb with
            | true =>
              have hlt2 := impl_delta.fits_lt HFB.out.symm
              have hext : l ≠ [] ∧ (impl_delta.last l).f0 = 1 ∧ impl_delta.fits sz rs wk st sd s full rest (wrap64 ((impl_delta.last l).f2 + (impl_delta.last l).f3)) i = true := by
                rw [← HX.out, ← HNX.out]
                exact ⟨HL.out, HK.out, HFB.out.symm⟩
              obtain ⟨ln2, hln2⟩ : ∃ z, z = impl_delta.long sz rs wk.length nx := ⟨_, rfl⟩
              have hlnb2 : 1 ≤ ln2 ∧ ln2 ≤ 256 := by rw [hln2]; exact HLB.out nx
              have MLn := Aside0.mk (show ∀ w', Below w2.heap.size w2 w' → Calls Tryd.prog 73 #[.agg #[.int .i64 sz, .int .i64 rs, .slice A2 wk.length c2, .slice A3 st.length c3], .int .i64 nx] w' fun e w3 => e = .returned (.int .i64 ln2) ∧ Below w'.heap.size w' w3 from fun w' hb => by rw [hln2]; exact MLong.out w' nx hb)
              have e := HRUN1.out
              rw [HSTEP.out, impl_delta.step_ext hext, ← HX.out, ← HNX.out, ← hln2, impl_delta.w2 (show -1000000 ≤ i + ln2 ∧ i + ln2 ≤ 1000000 by omega)] at e
              have e2 : RUN k1 (i + ln2) (impl_delta.set l ⟨x.f0, x.f1, x.f2, wrap64 (x.f3 + 1)⟩) = r := e
              have HRUN2 := Aside0.mk e2
              have hiw : IntKind.i64.wrap (i + ln2) = i + ln2 := impl_delta.w1 (by omega)
              have hcw : IntKind.i64.wrap (x.f3 + 1) = wrap64 (x.f3 + 1) := i64_w _
              have HI2 := Aside0.mk (show 0 ≤ i + ln2 ∧ i + ln2 ≤ 20256 ∧ (s.size : Int) ≤ i + ln2 + (k1 : Int) by have := HI.out; omega)
              have HINV2 := Aside0.mk (impl_delta.Inv_set (n := wk.length) l ⟨x.f0, x.f1, x.f2, wrap64 (x.f3 + 1)⟩ HL.out (fun _ => by
                obtain ⟨h1, h2, h3⟩ := HIN.out
                have h4 := HNE.out
                rw [impl_delta.w2 (by omega)]
                exact ⟨h1, show 0 ≤ x.f3 + 1 by omega, show x.f2 + (x.f3 + 1) ≤ (wk.length : Int) by omega⟩))
              have HLEN2 := Aside0.mk (show (((impl_delta.set l ⟨x.f0, x.f1, x.f2, wrap64 (x.f3 + 1)⟩).length : Nat) : Int) ≤ i + ln2 by unfold impl_delta.set; rw [List.length_set]; have := HLEN.out; omega)
              clear e e2 hext hln2 HFB HNX HRUN1
              go_upto_region 11 with (first | (go_at_call 101; refine (MFx.out _ HB.out).mono ?_; rintro e w5 ⟨rfl, hb5⟩; have n0_ := Aside0.mk (below_weaken2 HB.out hb5); have n1_ := Aside0.mk (Kd.R_below HR.out hb5); clear HB HR hb5; have HB := n0_; have HR := n1_; clear n0_ n1_))
              obtain ⟨c0, c1, c2', c3', f1, f3, SC, ST⟩ := impl_delta.lastR HR.out HM.out
              rw [← HX.out] at c0 c1 c2' c3' SC
              go_upto_region 12 with fail
              have n0_ := Aside0.mk (SC (wrap64 (x.f3 + 1)))
              have n1_ := Aside0.mk (below_set (j := m * 4 + 3) (v := .int .i64 (wrap64 (x.f3 + 1))) HB.out hgo)
              have hlen2 : (impl_delta.set l ⟨x.f0, x.f1, x.f2, wrap64 (x.f3 + 1)⟩).length = l.length := by unfold impl_delta.set; rw [List.length_set]
              rw [hlen2] at n0_
              clear HB HR c0 c1 c2' c3' f1 f3 SC ST hlen2
              generalize World.setCell _ _ _ = wz at n0_ n1_ ⊢
              have HR := n0_
              have HB := n1_
              clear n0_ n1_
              obtain ⟨y0, y1, y2, y3⟩ := impl_delta.row4 ((HB.out.block _ hlt3).trans B30.out)
              go_wp2_with (first | (go_at_call 73; refine (MLn.out _ HB.out).mono ?_; rintro e w7 ⟨rfl, hb7⟩; have n0_ := Aside0.mk (below_weaken2 HB.out hb7); have n1_ := Aside0.mk (Kd.R_below HR.out hb7); clear HB HR hb7; have HB := n0_; have HR := n1_; clear n0_ n1_))
              go_roundg k1
              case measure => omega
              case rel => exact ⟨i + ln2, _, by first | exact congrArg (Value.int .i64) hiw | simp [hiw], HI2, HRUN2, HINV2, HLEN2, HR, HB⟩
            | false =>
              go_wp2_with (first | (go_at_call 101; refine (MFx.out _ HB.out).mono ?_; rintro e w5 ⟨rfl, hb5⟩; have n0_ := Aside0.mk (below_weaken2 HB.out hb5); have n1_ := Aside0.mk (Kd.R_below HR.out hb5); clear HB HR hb5; have HB := n0_; have HR := n1_; clear n0_ n1_))
              go_meet
              case rel => exact ⟨rfl, ⟨fun h => by rw [← HX.out, ← HNX.out, ← HFB.out] at h; exact absurd h.2.2 (by simp)⟩, HR, HB⟩
        case rest =>
          obtain ⟨rfl, HNX, HR, HB⟩ := hcut
          clear HKB MFit MLong
          obtain ⟨y0, y1, y2, y3⟩ := impl_delta.row4 ((HB.out.block _ hlt3).trans B30.out)
          by_cases hq : q ≥ 0
          · have hqb : decide (q ≥ 0) = true := decide_eq_true hq
            have hqb2 : decide (0 ≤ q) = true := decide_eq_true hq
            have hlnb := HLNB.out
            have HRUN2 := Aside0.mk (HCOPY.out l hq HNX.out HRUN1.out)
            obtain ⟨i', hi'⟩ : ∃ z, z = i + ln := ⟨_, rfl⟩
            have hiw : IntKind.i64.wrap (i + ln) = i' := by rw [hi']; exact impl_delta.w1 (by omega)
            rw [← hi'] at HRUN2
            have HI2 := Aside0.mk (show 0 ≤ i' ∧ i' ≤ 20256 ∧ (s.size : Int) ≤ i' + (k1 : Int) by have := HI.out; omega)
            have HINV2 := Aside0.mk (impl_delta.Inv_snoc (n := wk.length) l ⟨1, (⟨#[]⟩ : ByteArray), q, 1⟩ (fun _ => ⟨hq, show (0 : Int) ≤ 1 by decide, show q + 1 ≤ (wk.length : Int) by have := HQF.out hq; omega⟩))
            have HLEN2 := Aside0.mk (show (((l ++ [(⟨1, (⟨#[]⟩ : ByteArray), q, 1⟩ : S94)]).length : Nat) : Int) ≤ i' by rw [List.length_append, List.length_singleton]; have := HLEN.out; omega)
            clear hi' HCOPY HLIT HRUN1 HNX HPP
            go_wp2_with (first | (go_at_call 102; refine (MFq.out _ HB.out).mono ?_; rintro e w5 ⟨rfl, hb5⟩; have n0_ := Aside0.mk (below_weaken2 HB.out hb5); have n1_ := Aside0.mk (Kd.R_below HR.out hb5); clear HB HR hb5; have HB := n0_; have HR := n1_; clear n0_ n1_) | ((with_reducible refine gate_builtin (b := .append) (xs := #[.tmp 78, .tmp 81]) rfl ?_); at_builtin; refine Kd.R_append k94 (w0 := w2) w2.heap.size rfl (.tmp 78) (.tmp 81) 54 94 (.agg #[(.int .i64 0), (.string ⟨#[]⟩), (.int .i64 0), (.int .i64 0)]) 40 rfl Tryd.underlying54 impl_delta.i94 rfl (by decide) (by omega) _ l (⟨1, (⟨#[]⟩ : ByteArray), q, 1⟩ : S94) [.int .i64 1, .string (⟨#[]⟩ : ByteArray), .int .i64 q, .int .i64 1] (fun _ => True) (fun _ => False) rfl rfl ?aP (fun _ hk => hk.elim) (fun _ _ => trivial) ?aO ?aB ?aS ?aL ?_; (case aP => exact k94_mkM _ _ _ (⟨1, (⟨#[]⟩ : ByteArray), q, 1⟩ : S94)); (case aB => exact HB.out); (case aO => exact HR.out); (case aS => exact HB.out.size); (case aL => have := HLEN.out; omega); intro v6 w6 ho6 hb6 hg6 hat6; clear hg6 hat6; have n0_ := Aside0.mk hb6; have n1_ := Aside0.mk ho6; clear HB HR hb6 ho6; have HB := n0_; have HR := n1_; clear n0_ n1_; obtain ⟨y0, y1, y2, y3⟩ := impl_delta.row4 ((HB.out.block _ hlt3).trans B30.out)) | (go_at_call 73; refine (MLq.out _ HB.out).mono ?_; rintro e w7 ⟨rfl, hb7⟩; have n0_ := Aside0.mk (below_weaken2 HB.out hb7); have n1_ := Aside0.mk (Kd.R_below HR.out hb7); clear HB HR hb7; have HB := n0_; have HR := n1_; clear n0_ n1_))
            go_roundg k1
            case measure => omega
            case rel => exact ⟨i', _, by first | exact congrArg (Value.int .i64) hiw | simp [hiw], HI2, HRUN2, HINV2, HLEN2, HR, HB⟩
          · have hqb : decide (q ≥ 0) = false := decide_eq_false hq
            have hqb2 : decide (0 ≤ q) = false := decide_eq_false hq
            obtain ⟨gb, hgb⟩ : ∃ b : Bool, b = decide (l ≠ [] ∧ (impl_delta.last l).f0 = 0 ∧ (impl_delta.last l).f1.size < 100) := ⟨_, rfl⟩
            have HGB := Aside0.mk hgb
            have HQN := Aside0.mk hq
            clear hgb hq y0 y1 y2 y3
            go_upto_region 18 with (first | (go_at_call 102; refine (MFq.out _ HB.out).mono ?_; rintro e w5 ⟨rfl, hb5⟩; have n0_ := Aside0.mk (below_weaken2 HB.out hb5); have n1_ := Aside0.mk (Kd.R_below HR.out hb5); clear HB HR hb5; have HB := n0_; have HR := n1_; clear n0_ n1_))
            go_cut [88] (fun v88 wc => v88 = .bool gb ∧ Aside0 (w5 = wc))
            case first =>
              rcases HPP.out with ⟨hl, rfl⟩ | ⟨hl, go, m, hm, rfl, hgo, rfl⟩
              · obtain rfl : gb = false := by rw [HGB.out]; exact decide_eq_false (fun h => h.1 hl)
                clear HPP HGB hl
                go_wp2
                go_meet
                case rel => exact ⟨by first | rfl | simp, ⟨rfl⟩⟩
              · obtain ⟨c0, c1, _⟩ := impl_delta.lastR HR.out hm
                by_cases hk : (impl_delta.last l).f0 = 0
                · rw [hk] at c0
                  by_cases hs : (impl_delta.last l).f1.size < 100
                  · obtain rfl : gb = true := by rw [HGB.out]; exact decide_eq_true ⟨hl, hk, hs⟩
                    have hs1 : decide (((impl_delta.last l).f1.size : Int) < 100) = true := decide_eq_true (by omega)
                    clear HPP HGB hl hk hm
                    go_wp2
                    go_meet
                    case rel => exact ⟨by first | rfl | simp, ⟨rfl⟩⟩
                  · obtain rfl : gb = false := by rw [HGB.out]; exact decide_eq_false (fun h => hs h.2.2)
                    have hs1 : decide (((impl_delta.last l).f1.size : Int) < 100) = false := decide_eq_false (by omega)
                    clear HPP HGB hl hk hm
                    go_wp2
                    go_meet
                    case rel => exact ⟨by first | rfl | simp, ⟨rfl⟩⟩
                · obtain rfl : gb = false := by rw [HGB.out]; exact decide_eq_false (fun h => hk h.2.1)
                  have hkb : ((impl_delta.last l).f0 == 0) = false := by simp [hk]
                  obtain ⟨f0, hf0⟩ : ∃ z, z = (impl_delta.last l).f0 := ⟨_, rfl⟩
                  rw [← hf0] at c0 hkb
                  clear HPP HGB hl hk hm hf0
                  go_wp2
                  go_meet
                  case rel => exact ⟨by first | rfl | simp [hkb], ⟨rfl⟩⟩
            case rest =>
            obtain ⟨rfl, ⟨rfl⟩⟩ := hcut
            cases gb with
            | false =>
              have HRUN2 := Aside0.mk (HLIT.out l (by have := HQN.out; omega) HNX.out (of_decide_eq_false HGB.out.symm) HRUN1.out)
              have HINV2 := Aside0.mk (impl_delta.Inv_snoc (n := wk.length) l ⟨0, s.extract i.toNat (wrap64 (i + 1)).toNat, 0, 0⟩ (fun h => absurd (show (0 : Int) = 1 from h) (by decide)))
              have HLEN2 := Aside0.mk (show (((l ++ [(⟨0, s.extract i.toNat (wrap64 (i + 1)).toNat, 0, 0⟩ : S94)]).length : Nat) : Int) ≤ wrap64 (i + 1) by rw [List.length_append, List.length_singleton, HWV.out]; have := HLEN.out; omega)
              clear HCOPY HLIT HRUN1 HNX HPP HGB
              go_wp2_with (first | ((with_reducible refine gate_builtin (b := .append) (xs := #[.tmp 66, .tmp 73]) rfl ?_); at_builtin; refine Kd.R_append k94 (w0 := w2) w2.heap.size rfl (.tmp 66) (.tmp 73) 54 94 (.agg #[(.int .i64 0), (.string ⟨#[]⟩), (.int .i64 0), (.int .i64 0)]) 40 rfl Tryd.underlying54 impl_delta.i94 rfl (by decide) (by omega) _ l (⟨0, s.extract i.toNat (wrap64 (i + 1)).toNat, 0, 0⟩ : S94) [.int .i64 0, .string (s.extract i.toNat (wrap64 (i + 1)).toNat), .int .i64 0, .int .i64 0] (fun _ => True) (fun _ => False) rfl rfl ?aP (fun _ hk => hk.elim) (fun _ _ => trivial) ?aO ?aB ?aS ?aL ?_; (case aP => exact k94_mkM _ _ _ (⟨0, s.extract i.toNat (wrap64 (i + 1)).toNat, 0, 0⟩ : S94)); (case aB => exact HB.out); (case aO => exact HR.out); (case aS => exact HB.out.size); (case aL => have := HLEN.out; omega); intro v6 w6 ho6 hb6 hg6 hat6; clear hg6 hat6; have n0_ := Aside0.mk hb6; have n1_ := Aside0.mk ho6; clear HB HR hb6 ho6; have HB := n0_; have HR := n1_; clear n0_ n1_; obtain ⟨y0, y1, y2, y3⟩ := impl_delta.row4 ((HB.out.block _ hlt3).trans B30.out)))
              go_roundg k1
              case measure => omega
              case rel => exact ⟨wrap64 (i + 1), _, by first | rfl | exact congrArg (Value.int .i64) hwi | simp [hwi], HI1, HRUN2, HINV2, HLEN2, HR, HB⟩
            | true =>
              obtain ⟨hl, hk, hs⟩ := of_decide_eq_true HGB.out.symm
              rcases HPP.out with ⟨hl2, _⟩ | ⟨_, go, m, hm, rfl, hgo, rfl⟩
              · exact absurd hl2 hl
              have e := HRUN1.out
              rw [HSTEP.out, impl_delta.step_grow HNX.out (by rw [← HQ.out]; have := HQN.out; omega) ⟨hl, hk, hs⟩] at e
              obtain ⟨x, hx⟩ : ∃ x, x = impl_delta.last l := ⟨_, rfl⟩
              rw [← hx] at e hk hs
              have e2 : RUN k1 (wrap64 (i + 1)) (impl_delta.set l ⟨x.f0, x.f1 ++ s.extract i.toNat (wrap64 (i + 1)).toNat, x.f2, x.f3⟩) = r := e
              have HRUN2 := Aside0.mk e2
              have HINV2 := Aside0.mk (impl_delta.Inv_set (n := wk.length) l ⟨x.f0, x.f1 ++ s.extract i.toNat (wrap64 (i + 1)).toNat, x.f2, x.f3⟩ hl (fun h => absurd (hk.symm.trans h) (by decide)))
              have hlen2 : (impl_delta.set l ⟨x.f0, x.f1 ++ s.extract i.toNat (wrap64 (i + 1)).toNat, x.f2, x.f3⟩).length = l.length := by unfold impl_delta.set; rw [List.length_set]
              have HLEN2 := Aside0.mk (show (((impl_delta.set l ⟨x.f0, x.f1 ++ s.extract i.toNat (wrap64 (i + 1)).toNat, x.f2, x.f3⟩).length : Nat) : Int) ≤ wrap64 (i + 1) by rw [hlen2, HWV.out]; have := HLEN.out; omega)
              obtain ⟨c0, c1, c2', c3', f1, f3, SC, ST⟩ := impl_delta.lastR HR.out hm
              rw [← hx] at c1
              have HX := Aside0.mk hx
              have HM := Aside0.mk hm
              have HL2 := Aside0.mk hlen2
              have hcz : (s.extract i.toNat (wrap64 (i + 1)).toNat).size ≤ 20000 := by rw [ByteArray.size_extract]; omega
              have hcat : (9223372036854775807 < x.f1.size + (s.extract i.toNat (wrap64 (i + 1)).toNat).size) = False := eq_false (by omega)
              have hcat2 : decide (x.f1.size + (s.extract i.toNat (wrap64 (i + 1)).toNat).size ≤ 9223372036854775807) = true := decide_eq_true (by omega)
              have hcat4 : (9223372036854775807 < x.f1.size + ((wrap64 (i + 1)).toNat - i.toNat)) = False := eq_false (by have := HWV.out; omega)
              have hcat3 : (x.f1.size + (s.extract i.toNat (wrap64 (i + 1)).toNat).size ≤ 9223372036854775807) = True := eq_true (by omega)
              clear e e2 hk hs hl hx hm hlen2 hcz c0 c2' c3' f3 SC ST HCOPY HLIT HRUN1 HNX HPP HGB
              go_upto_region 19 with fail
              refine start_ (n := 13) (S := fun w' => w'.cell? ⟨go, m * 4 + 1, none⟩ = some (.string x.f1) ∧ w'.frozen? ⟨go, m * 4 + 1, none⟩ = false) (ds := [12]) (bm 13 0) (by kernel_rfl) rfl rfl ⟨c1, f1⟩ (fun hHeld => ?_); refine with_tabW impl_delta.tab78_19 impl_delta.bits78_19 (fun HT_ HW_ => ?_)
              have HBr := Aside0.mk (below_drew (Below.refl w5.heap.size w5))
              generalize w5.drew = wd at HBr hHeld ⊢
              refine pure_ (i := 0) (N := some 106) (v := ?_) (a' := ?_) (bm 13 1) rfl rfl (any_of HT_.out (by kernel_rfl)) (fun _ _ _ h => h) (Or.inl ⟨by rfl, ?_⟩) ?_ ?_; rotate_left; · (intro w'; go_simp; with_reducible rfl)
              rotate_left; · (simp only [Act.put, q1, q2, q3, q4, q5, q6, q7]; rfl)
              refine pure_ (i := 1) (N := some 107) (v := ?_) (a' := ?_) (bm 13 3) rfl rfl (any_of HT_.out (by kernel_rfl)) (fun _ _ _ h => h) (Or.inl ⟨by rfl, ?_⟩) ?_ ?_; rotate_left; · (intro w'; go_simp; with_reducible rfl)
              rotate_left; · (simp only [Act.put, q1, q2, q3, q4, q5, q6, q7]; rfl)
              refine pure_ (i := 2) (N := some 108) (v := ?_) (a' := ?_) (bm 13 7) rfl rfl (any_of HT_.out (by kernel_rfl)) (fun _ _ _ h => h) (Or.inl ⟨by rfl, ?_⟩) ?_ ?_; rotate_left; · (intro w'; go_simp; with_reducible rfl)
              rotate_left; · (simp only [Act.put, q1, q2, q3, q4, q5, q6, q7]; rfl)
              refine pure_ (i := 4) (N := some 110) (v := ?_) (a' := ?_) (bm 13 23) rfl rfl (any_of HT_.out (by kernel_rfl)) (fun _ _ _ h => h) (Or.inl ⟨by rfl, ?_⟩) ?_ ?_; rotate_left; · (intro w'; go_simp; with_reducible rfl)
              rotate_left; · (simp only [Act.put, q1, q2, q3, q4, q5, q6, q7]; rfl)
              refine pure_ (i := 5) (N := some 111) (v := ?_) (a' := ?_) (bm 13 55) rfl rfl (any_of HT_.out (by kernel_rfl)) (fun _ _ _ h => h) (Or.inl ⟨by rfl, ?_⟩) ?_ ?_; rotate_left; · (intro w'; go_simp; with_reducible rfl)
              rotate_left; · (simp only [Act.put, q1, q2, q3, q4, q5, q6, q7]; rfl)
              refine pure_ (i := 6) (N := some 112) (v := ?_) (a' := ?_) (bm 13 119) rfl rfl (any_of HT_.out (by kernel_rfl)) (fun _ _ _ h => h) (Or.inl ⟨by rfl, ?_⟩) ?_ ?_; rotate_left; · (intro w'; go_simp; with_reducible rfl)
              rotate_left; · (simp only [Act.put, q1, q2, q3, q4, q5, q6, q7]; rfl)
              refine pure_ (i := 7) (N := some 113) (v := ?_) (a' := ?_) (bm 13 247) rfl rfl (any_of HT_.out (by kernel_rfl)) (fun _ _ _ h => h) (Or.inl ⟨by rfl, ?_⟩) ?_ ?_; rotate_left; · (intro w'; go_simp; with_reducible rfl)
              rotate_left; · (simp only [Act.put, q1, q2, q3, q4, q5, q6, q7]; rfl)
              refine pure_ (i := 8) (N := some 114) (v := ?_) (a' := ?_) (bm 13 503) rfl rfl (any_of HT_.out (by kernel_rfl)) (fun _ _ _ h => h) (Or.inl ⟨by rfl, ?_⟩) ?_ ?_; rotate_left; · (intro w'; go_simp; with_reducible rfl)
              rotate_left; · (simp only [Act.put, q1, q2, q3, q4, q5, q6, q7]; rfl)
              refine take_ (i := 3) (N := some 109) (v := ?_) (a' := ?_) (bm 13 511) rfl rfl (take_ofW HT_.out HW_.out (by kernel_rfl)) (fun _ _ _ h => h) (Or.inl ⟨by rfl, ?_⟩) hHeld ?_ ?_; rotate_left; · (rintro w' ⟨s0, s1⟩; go_simp; with_reducible rfl)
              rotate_left; · (simp only [Act.put, q1, q2, q3, q4, q5, q6, q7]; rfl)
              refine pure_ (i := 9) (N := some 115) (v := ?_) (a' := ?_) (bm 13 1023) rfl rfl (any_of HT_.out (by kernel_rfl)) (fun _ _ _ h => h) (Or.inl ⟨by rfl, ?_⟩) ?_ ?_; rotate_left; · (intro w'; go_simp; with_reducible rfl)
              rotate_left; · (simp only [Act.put, q1, q2, q3, q4, q5, q6, q7]; rfl)
              refine pure_ (i := 10) (N := some 116) (v := ?_) (a' := ?_) (bm 13 2047) rfl rfl (any_of HT_.out (by kernel_rfl)) (fun _ _ _ h => h) (Or.inl ⟨by rfl, ?_⟩) ?_ ?_; rotate_left; · (intro w'; go_simp; with_reducible rfl)
              rotate_left; · (simp only [Act.put, q1, q2, q3, q4, q5, q6, q7]; rfl)
              refine pure_ (i := 11) (N := some 117) (v := ?_) (a' := ?_) (bm 13 4095) rfl rfl (any_of HT_.out (by kernel_rfl)) (fun _ _ _ h => h) (Or.inl ⟨by rfl, ?_⟩) ?_ ?_; rotate_left; · (intro w'; go_simp; with_reducible rfl)
              rotate_left; · (simp only [Act.put, q1, q2, q3, q4, q5, q6, q7]; rfl)
              refine last_ (i := 12) (N := none) (bm 13 8191) rfl rfl (one_of HT_.out (by kernel_rfl)) (by decide) (fun K hK => ?_)
              have cd1 : wd.cell? ⟨go, m * 4 + 1, none⟩ = some (.string x.f1) := hHeld.1
              have fd1 : wd.frozen? ⟨go, m * 4 + 1, none⟩ = false := hHeld.2
              refine impl_delta.skip_step (by rfl) rfl (w1 := wd.setCell ⟨go, m * 4 + 1, none⟩ (.string (x.f1 ++ s.extract i.toNat (wrap64 (i + 1)).toNat))) (by first | (go_simp; done) | (go_simp; rfl)) ?_
              refine hK.out _ _ ?_
              clear hK K
              refine norm_ (a' := ?_) ?_ ?_
              rotate_left
              · (show Act.put _ (none) _ = _; simp only [Act.put, q1, q2, q3, q4, q5, q6, q7]; rfl)
              refine done_ (done_of HT_.out (by kernel_rfl)) ?_
              obtain ⟨_, _, _, _, _, _, _, ST⟩ := impl_delta.lastR (Kd.R_below HR.out HBr.out) HM.out
              rw [← HX.out] at ST
              have n0_ := Aside0.mk (ST (x.f1 ++ s.extract i.toNat (wrap64 (i + 1)).toNat))
              rw [HL2.out] at n0_
              have n1_ := Aside0.mk (below_set (j := m * 4 + 1) (v := .string (x.f1 ++ s.extract i.toNat (wrap64 (i + 1)).toNat)) (below_step HB.out HBr.out) hgo)
              clear hHeld HB HR c1 f1 cd1 fd1 ST HBr
              generalize World.setCell _ _ _ = wz at n0_ n1_ ⊢
              have HR := n0_
              have HB := n1_
              clear n0_ n1_
              go_wp2
              go_roundg k1
              case measure => omega
              case rel => exact ⟨wrap64 (i + 1), _, by first | rfl | exact congrArg (Value.int .i64) hwi | simp [hwi], HI1, HRUN2, HINV2, HLEN2, HR, HB⟩
    · have hltb : decide (i < (s.size : Int)) = false := decide_eq_false hlt
      have e : l = r := by
        have e := HRUN.out
        cases gk with
        | zero => rw [HR0.out] at e; exact e
        | succ k1 => rw [HRS.out, if_neg hlt] at e; exact e
      subst e
      clear HRUN
      go_wp2
      go_ret
      exact ⟨_, rfl, Kd.R_lower HR.out hsz2, below_step HB0.out HB.out⟩

end Go.Proofs.YtbkodnhnadkhdaaDoor.PFt
