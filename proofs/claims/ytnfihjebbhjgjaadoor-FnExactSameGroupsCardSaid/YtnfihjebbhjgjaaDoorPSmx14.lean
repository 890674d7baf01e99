-- Made by a program of this session (tools/pr.sh) out of the translation; Lean checks it.
import Derived.Test.YtnfihjebbhjgjaaDoorPSmx0
import Derived.Test.YtnfihjebbhjgjaaDoorPSmx2
import Derived.Test.YtnfihjebbhjgjaaDoorPSmx6
import Derived.Test.YtnfihjebbhjgjaaDoorPSmx9
import Derived.Test.YtnfihjebbhjgjaaDoorPSmx13
namespace Go.Proofs.YtnfihjebbhjgjaaDoor.PSm
open Go.RowKit Go.Proofs.YtnfihjebbhjgjaaDoorW.PrintWords Go.Proofs.YtnfihjebbhjgjaaDoorW.PrintLast Go.Proofs.YtnfihjebbhjgjaaDoorW.PrintMore
attribute [local go_sem] max2_int min2_int max_two min_two max_three min_three max_four min_four   -- for this text's walks alone
set_option linter.unusedVariables false
set_option linter.unusedSimpArgs false

-- GIVEN by hand
/-! ### impl_TreeOk: function 44 -/
attribute [local go_sem] geq_str max2_int min2_int max_two min_two max_three min_three max_four min_four
def impl_TreeOk.el (l : List S41) (i : Nat) : S41 := rd_T41 l (i : Int)
/-- The last node ahead of place i with a group's number; how many there are. -/
def impl_TreeOk.last (l : List S41) (g : Int) : Nat → Option S41
 | 0 => none
 | i + 1 => if (impl_TreeOk.el l i).f6 = g then some (impl_TreeOk.el l i) else impl_TreeOk.last l g i
def impl_TreeOk.cnt (l : List S41) (g : Int) : Nat → Nat
 | 0 => 0
 | i + 1 => if (impl_TreeOk.el l i).f6 = g then impl_TreeOk.cnt l g i + 1 else impl_TreeOk.cnt l g i
def impl_TreeOk.alike (l : List S41) (x : S41) (i : Nat) : Option Bool := match impl_TreeOk.last l x.f6 i with
 | none => some true
 | some f => impl_isAlike.f f.f0 f.f1 f.f2 f.f3 f.f4 f.f5 f.f6 x.f0 x.f1 x.f2 x.f3 x.f4 x.f5 x.f6
def impl_TreeOk.lone (l : List S41) : Bool := (List.range l.length).any fun j => decide ((impl_TreeOk.el l j).f6 ≠ 0 ∧ impl_TreeOk.cnt l (impl_TreeOk.el l j).f6 l.length < 2)
def impl_TreeOk.prev (l : List S41) (i : Nat) : Bool := decide (i = 0) || Op.bytesLess (impl_TreeOk.el l (i - 1)).f0.toList (impl_TreeOk.el l i).f0.toList
def impl_TreeOk.l0 : Nat → List S41 → Nat → Option Bool
 | 0, _, _ => none
 | k + 1, l, i => if i < l.length then ((impl_NodeOk.f k (impl_TreeOk.el l i).f0 (impl_TreeOk.el l i).f1 (impl_TreeOk.el l i).f2 (impl_TreeOk.el l i).f3 (impl_TreeOk.el l i).f4 (impl_TreeOk.el l i).f5 (impl_TreeOk.el l i).f6).bind fun b => (if b = true then (if impl_TreeOk.prev l i = true then ((impl_ParentOf.f k (impl_TreeOk.el l i).f0).bind fun p => ((impl_isDirIn.f k (l.take i) p).bind fun d => (if d = true then (if (impl_TreeOk.el l i).f6 = 0 then impl_TreeOk.l0 k l (i + 1) else ((impl_TreeOk.alike l (impl_TreeOk.el l i) i).bind fun a => (if a = true then impl_TreeOk.l0 k l (i + 1) else some false))) else some false))) else some false) else some false)) else (if impl_TreeOk.lone l = true then some false else impl_areSmall.f k l)
def impl_TreeOk.f (k : Nat) (l0 : List S41) : Option Bool := if (l0.length : Int) > 200 then some false else impl_TreeOk.l0 k l0 0
def impl_TreeOk.T8 : Bool × List (List Nat × List Nat) := (true, [([], []), ([0], [0]), ([1], [1]), ([2, 1], [2]), ([3], [3]), ([4, 3], [3, 4]), ([5, 3, 3], [3, 5]), ([6], [6]), ([6], [6]), ([8, 6], [6, 8]), ([7, 9, 6], [6, 7, 9]), ([10, 6], [6, 10]), ([11, 6], [6, 11]), ([6], [6]), ([13, 6], [6, 13]), ([12, 14, 6], [6, 12, 14]), ([6, 15, 3], [3, 6, 15]), ([3, 16], [3, 16]), ([17, 6], [17]), ([18], [18]), ([18], [18]), ([19, 20, 18], [18, 19, 20]), ([18], [18]), ([22, 18], [18, 22]), ([23, 18, 18], [18, 23]), ([21, 24, 24, 18], [18, 21, 24]), ([25, 18], [18, 25]), ([18, 26], [18, 26])])
def impl_TreeOk.B8 : List Nat := [0, 1, 3, 7, 15, 31, 63, 127, 127, 383, 1023, 2047, 4095, 127, 8319, 32767, 65535, 131071, 262143, 524287, 524287, 2097151, 524287, 4718591, 13107199, 33554431, 67108863, 134217727]
theorem impl_TreeOk.tab8 : rtab .any (opsOf Tryd.f44 8) = impl_TreeOk.T8 := by kernel_rfl
theorem impl_TreeOk.bits8 : waitsOk impl_TreeOk.T8.2 impl_TreeOk.B8 = true := by kernel_rfl
abbrev impl_TreeOk.Rv : Value → Option (DataW Value × List MemPlace) := fun v => some (.held v, [])
def impl_TreeOk.nodeV (x : S41) : Value := .agg #[.string x.f0, .int .i64 x.f1, .int .i64 x.f2, .int .i64 x.f3, .string x.f4, .string x.f5, .int .i64 x.f6]
def impl_TreeOk.zV : Value := .agg #[.string (⟨#[]⟩ : ByteArray), .int .i64 0, .int .i64 0, .int .i64 0, .string (⟨#[]⟩ : ByteArray), .string (⟨#[]⟩ : ByteArray), .int .i64 0]
def impl_TreeOk.M1 (l : List S41) (i : Nat) (D : DataW Value) : Prop := ∀ g : Int, g ≠ 0 → Maps.has D (.int .i64 g) = (impl_TreeOk.last l g i).isSome ∧ ∀ f, impl_TreeOk.last l g i = some f → D.atKey (.int .i64 g) (.held impl_TreeOk.zV) = .held (impl_TreeOk.nodeV f)
def impl_TreeOk.M2 (l : List S41) (i : Nat) (D : DataW Value) : Prop := (∀ g : Int, g ≠ 0 → Maps.has D (.int .i64 g) = decide (0 < impl_TreeOk.cnt l g i) ∧ D.atKey (.int .i64 g) (.lit (.int .i64 0)) = .lit (.int .i64 (impl_TreeOk.cnt l g i : Int))) ∧ ∀ kl, Maps.has D kl = true → ∃ g : Int, g ≠ 0 ∧ kl = .int .i64 g
theorem impl_TreeOk.row7 {w : World} {g t : Nat} {x0 x1 x2 x3 x4 x5 x6 : Value} (h : w.heap[g]? = some (.cells #[x0, x1, x2, x3, x4, x5, x6] t (0, 0))) :
 w.cell? ⟨g, 0, none⟩ = some x0 ∧ w.cell? ⟨g, 1, none⟩ = some x1 ∧ w.cell? ⟨g, 2, none⟩ = some x2 ∧ w.cell? ⟨g, 3, none⟩ = some x3 ∧ w.cell? ⟨g, 4, none⟩ = some x4 ∧ w.cell? ⟨g, 5, none⟩ = some x5 ∧ w.cell? ⟨g, 6, none⟩ = some x6 := by
 simp [World.cell?, h]
theorem impl_TreeOk.owns_kept {H : Type} {P : Program} {k : TypeId} {R : Value → Option (DataW H × List MemPlace)} {b n : Nat} {D : DataW H} {w w' : World} (h : w.ownsMap P k R b n D) (hb : w'.heap[b]? = w.heap[b]?) : w'.ownsMap P k R b n D := by
 obtain ⟨es, clock, h1, h2, h3, h4⟩ := h
 exact ⟨es, clock, hb.trans h1, h2, h3, h4⟩
theorem impl_TreeOk.grp {k : Nat} {a : ByteArray} {b c d : Int} {s t : ByteArray} {g : Int} (h : impl_NodeOk.f k a b c d s t g = some true) : 0 ≤ g ∧ g ≤ 200 := by
 have key : ∀ x : Bool, impl_NodeOk.j0 k x a b c d s t g = some true → 0 ≤ g ∧ g ≤ 200 := fun x hx => by
  cases k with
  | zero => simp [impl_NodeOk.j0] at hx
  | succ k =>
   simp only [impl_NodeOk.j0] at hx
   split at hx
   ·
    cases hx
   ·
    split at hx
    ·
     split at hx
     ·
      split at hx
      ·
       have := Option.some.inj hx
       simp at this
       omega
      ·
       cases hx
     ·
      cases hx
    ·
     split at hx
     ·
      split at hx
      ·
       split at hx
       ·
        unfold impl_within.f at hx
        split at hx
        ·
         simp at hx
         omega
        ·
         simp at hx
       ·
        cases hx
      ·
       cases hx
     ·
      split at hx
      ·
       split at hx
       ·
        split at hx
        ·
         split at hx
         ·
          omega
         ·
          cases hx
        ·
         cases hx
       ·
        cases hx
      ·
       cases hx
 unfold impl_NodeOk.f at h
 obtain ⟨p, _, h⟩ := Option.bind_eq_some_iff.mp h
 split at h
 ·
  obtain ⟨q, _, h⟩ := Option.bind_eq_some_iff.mp h
  split at h
  ·
   obtain ⟨u, _, h⟩ := Option.bind_eq_some_iff.mp h
   exact key _ h
  ·
   exact key _ h
 ·
  exact key _ h
theorem impl_TreeOk.law3 : Maps.Keyed Tryd.prog 3 := Maps.int_keyed Tryd.underlying3
theorem impl_TreeOk.zN (w : World) : (zeroValue 41).run Tryd.prog w = .ok impl_TreeOk.zV w := by kernel_rfl
theorem impl_TreeOk.zI (w : World) : (zeroValue 3).run Tryd.prog w = .ok (.int .i64 0) w := by kernel_rfl
theorem impl_TreeOk.wfG {g : Int} (h : 0 ≤ g ∧ g ≤ 200) : (Lit.int .i64 g).wf = true := by
 simp [Lit.wf, IntKind.min, IntKind.max, IntKind.signed, IntKind.bits]; omega
theorem impl_TreeOk.cnt_le (l : List S41) (g : Int) : ∀ i, impl_TreeOk.cnt l g i ≤ i
 | 0 => Nat.le_refl _
 | i + 1 => by simp only [impl_TreeOk.cnt]; have := impl_TreeOk.cnt_le l g i; split <;> omega
theorem impl_TreeOk.cnt_pos (l : List S41) (g : Int) : ∀ i, 0 < impl_TreeOk.cnt l g i ↔ ∃ j, j < i ∧ (impl_TreeOk.el l j).f6 = g
 | 0 => by simp [impl_TreeOk.cnt]
 | i + 1 => by
  simp only [impl_TreeOk.cnt]
  have ih := impl_TreeOk.cnt_pos l g i
  by_cases h : (impl_TreeOk.el l i).f6 = g
  ·
   rw [if_pos h]
   exact ⟨fun _ => ⟨i, by omega, h⟩, fun _ => by omega⟩
  ·
   rw [if_neg h, ih]
   exact ⟨fun ⟨j, h1, h2⟩ => ⟨j, by omega, h2⟩, fun ⟨j, h1, h2⟩ => ⟨j, by by_cases e : j = i; (· subst e; exact absurd h2 h); (· omega), h2⟩⟩
theorem impl_TreeOk.M1_skip {l : List S41} {i : Nat} {D : DataW Value} (h : impl_TreeOk.M1 l i D) (h0 : (impl_TreeOk.el l i).f6 = 0) : impl_TreeOk.M1 l (i + 1) D := fun g hg => by
 have e : impl_TreeOk.last l g (i + 1) = impl_TreeOk.last l g i := if_neg (by rw [h0]; exact fun e => hg e.symm)
 rw [e]
 exact h g hg
theorem impl_TreeOk.M2_skip {l : List S41} {i : Nat} {D : DataW Value} (h : impl_TreeOk.M2 l i D) (h0 : (impl_TreeOk.el l i).f6 = 0) : impl_TreeOk.M2 l (i + 1) D := ⟨fun g hg => by
 have e : impl_TreeOk.cnt l g (i + 1) = impl_TreeOk.cnt l g i := if_neg (by rw [h0]; exact fun e => hg e.symm)
 rw [e]
 exact h.1 g hg, h.2⟩
theorem impl_TreeOk.M1_put {l : List S41} {i : Nat} {D : DataW Value} (h : impl_TreeOk.M1 l i D) (hD : Maps.IsMap D) (h0 : (impl_TreeOk.el l i).f6 ≠ 0) : impl_TreeOk.M1 l (i + 1) (D.put (.int .i64 (impl_TreeOk.el l i).f6) (.held (impl_TreeOk.nodeV (impl_TreeOk.el l i)))) := fun g hg => by
 by_cases e : (impl_TreeOk.el l i).f6 = g
 ·
  have e1 : impl_TreeOk.last l g (i + 1) = some (impl_TreeOk.el l i) := if_pos e
  rw [e1, ← e]
  exact ⟨Maps.has_put_same hD (show WideAt.IsKeyLit (Lit.int .i64 _) from trivial) _, fun f hf => by rw [← Option.some.inj hf]; exact Maps.atKey_put_same hD (show WideAt.IsKeyLit (Lit.int .i64 _) from trivial) _ _⟩
 ·
  have e1 : impl_TreeOk.last l g (i + 1) = impl_TreeOk.last l g i := if_neg e
  rw [e1]
  have hne : (Lit.int .i64 g) ≠ (Lit.int .i64 (impl_TreeOk.el l i).f6) := fun e2 => e (by injection e2 with _ e3; exact e3.symm)
  exact ⟨(Maps.has_put_other hne _).trans (h g hg).1, fun f hf => (Maps.atKey_put_other hne _ _).trans ((h g hg).2 f hf)⟩
theorem impl_TreeOk.M2_put {l : List S41} {i : Nat} {D : DataW Value} (h : impl_TreeOk.M2 l i D) (hD : Maps.IsMap D) (h0 : (impl_TreeOk.el l i).f6 ≠ 0) : impl_TreeOk.M2 l (i + 1) (D.put (.int .i64 (impl_TreeOk.el l i).f6) (.lit (.int .i64 ((impl_TreeOk.cnt l (impl_TreeOk.el l i).f6 i : Int) + 1)))) := by
 refine ⟨fun g hg => ?_, fun kl hk => ?_⟩
 ·
  by_cases e : (impl_TreeOk.el l i).f6 = g
  ·
   have e1 : impl_TreeOk.cnt l g (i + 1) = impl_TreeOk.cnt l g i + 1 := if_pos e
   rw [e1, ← e]
   exact ⟨(Maps.has_put_same hD (show WideAt.IsKeyLit (Lit.int .i64 _) from trivial) _).trans (by simp), Maps.atKey_put_same hD (show WideAt.IsKeyLit (Lit.int .i64 _) from trivial) _ _⟩
  ·
   have e1 : impl_TreeOk.cnt l g (i + 1) = impl_TreeOk.cnt l g i := if_neg e
   rw [e1]
   have hne : (Lit.int .i64 g) ≠ (Lit.int .i64 (impl_TreeOk.el l i).f6) := fun e2 => e (by injection e2 with _ e3; exact e3.symm)
   exact ⟨(Maps.has_put_other hne _).trans (h.1 g hg).1, (Maps.atKey_put_other hne _ _).trans (h.1 g hg).2⟩
 ·
  by_cases e : kl = .int .i64 (impl_TreeOk.el l i).f6
  ·
   exact ⟨_, h0, e⟩
  ·
   rw [Maps.has_put_other e] at hk
   exact h.2 kl hk
theorem impl_TreeOk.lone_true {l : List S41} {D : DataW Value} (h : impl_TreeOk.M2 l l.length D) {g c : Int} (hh : Maps.has D (.int .i64 g) = true) (hc : ∀ zd, D.atKey (.int .i64 g) zd = .lit (.int .i64 c)) (h2 : c < 2) : impl_TreeOk.lone l = true := by
 obtain ⟨g', hg, e⟩ := h.2 _ hh
 obtain rfl : g = g' := by injection e
 obtain ⟨h3, h4⟩ := h.1 g hg
 rw [hh] at h3
 obtain ⟨j, hj, hf⟩ := (impl_TreeOk.cnt_pos l g l.length).mp (of_decide_eq_true h3.symm)
 rw [hc] at h4
 have hcc : c = (impl_TreeOk.cnt l g l.length : Int) := by injection h4 with h5; injection h5
 unfold impl_TreeOk.lone
 rw [List.any_eq_true]
 refine ⟨j, List.mem_range.mpr hj, decide_eq_true ?_⟩
 rw [hf]
 exact ⟨hg, by omega⟩
theorem impl_TreeOk.lone_false {l : List S41} {D : DataW Value} (h : impl_TreeOk.M2 l l.length D) (hh : ∀ g : Int, g ≠ 0 → Maps.has D (.int .i64 g) = true → 2 ≤ impl_TreeOk.cnt l g l.length) : impl_TreeOk.lone l = false := by
 unfold impl_TreeOk.lone
 rw [List.any_eq_false]
 intro j hj hd
 obtain ⟨h1, h2⟩ := of_decide_eq_true hd
 have h3 := (h.1 _ h1).1
 rw [decide_eq_true ((impl_TreeOk.cnt_pos l _ l.length).mpr ⟨j, List.mem_range.mp hj, rfl⟩)] at h3
 have := hh _ h1 h3
 omega
theorem impl_TreeOk.atCnt {l : List S41} {D : DataW Value} (h : impl_TreeOk.M2 l l.length D) {g c : Int} (hh : Maps.has D (.int .i64 g) = true) (hc : ∀ zd, D.atKey (.int .i64 g) zd = .lit (.int .i64 c)) : c = (impl_TreeOk.cnt l g l.length : Int) := by
 obtain ⟨g', hg, e⟩ := h.2 _ hh
 obtain rfl : g = g' := by injection e
 have h4 := (h.1 g hg).2
 rw [hc] at h4
 injection h4 with h5
 injection h5
theorem impl_TreeOk.cFacts {l : List S41} {g c : Int} {i : Nat} {D : DataW Value} (hi : i < 200) (h : D.atKey (.int .i64 g) (.lit (.int .i64 0)) = .lit (.int .i64 (impl_TreeOk.cnt l g i : Int))) (hc : D.atKey (.int .i64 g) (.lit (.int .i64 0)) = .lit (.int .i64 c)) :
 c = (impl_TreeOk.cnt l g i : Int) ∧ IntKind.i64.wrap (c + 1) = c + 1 ∧ plainElem (H := Value) Tryd.prog 3 (.int .i64 (c + 1)) = some (.lit (.int .i64 (c + 1)), []) := by
 have e : c = (impl_TreeOk.cnt l g i : Int) := by
  have e := hc.symm.trans h
  injection e with e
  injection e
 have := impl_TreeOk.cnt_le l g i
 exact ⟨e, by rw [IntKind.wrap_i64]; omega, plainElem_int Tryd.underlying3 (by simp [Lit.wf, IntKind.min, IntKind.max, IntKind.signed, IntKind.bits]; omega)⟩
/-- A look-up with 'ok' whose answer is known. -/
theorem impl_TreeOk.look {w : World} {ops : Array Oper} {rest : List Oper} {o : Oper} {a : Act} {Q : Exit → Act → World → Prop} (hg : o.guard = none) (m x : Operand) (hop : o.op = Op.lookup 61 m x true) (b n : Nat) (D : DataW Value)
 (hm : a.eval m = .map (some b)) (hown : w.ownsMap Tryd.prog 3 impl_TreeOk.Rv b n D) (g : Int) (hwf : (Lit.int .i64 g).wf = true) (hx : a.eval x = .int .i64 g) (v0 : Value) (ok0 : Bool)
 (hv : D.atKey (.int .i64 g) (.held impl_TreeOk.zV) = .held v0) (hok : Maps.has D (.int .i64 g) = ok0)
 (hK : wpList Tryd.prog ops Q rest (a.put o.dst (.tuple #[v0, .bool ok0])) w) : wpList Tryd.prog ops Q (o :: rest) a w :=
 wpList_lookup_own_ok w hg m x 61 hop 3 41 impl_TreeOk.law3 Tryd.underlying61 impl_TreeOk.Rv (impl_TreeOk.zN w) (.held impl_TreeOk.zV) [] rfl b n D hm hown _ _ hx (Maps.keyOf_int_mk Tryd.underlying3 hwf) (fun v ps h => by
  have h1 : (DataW.held v : DataW Value) = D.atKey (.int .i64 g) (.held impl_TreeOk.zV) := congrArg Prod.fst (Option.some.inj h)
  rw [hv] at h1
  obtain rfl : v = v0 := by injection h1
  rw [hok]
  exact hK)
/-- What a round of the first loop comes to: how the test ends (bad), and what follows. -/
theorem impl_TreeOk.round {k1 i : Nat} {l : List S41} {r : Bool} (hi : i < l.length) (H : impl_TreeOk.l0 (k1 + 1) l i = some r) : ∃ bad : Bool,
 ((impl_NodeOk.f k1 (impl_TreeOk.el l i).f0 (impl_TreeOk.el l i).f1 (impl_TreeOk.el l i).f2 (impl_TreeOk.el l i).f3 (impl_TreeOk.el l i).f4 (impl_TreeOk.el l i).f5 (impl_TreeOk.el l i).f6 = some false ∧ bad = true) ∨ (impl_NodeOk.f k1 (impl_TreeOk.el l i).f0 (impl_TreeOk.el l i).f1 (impl_TreeOk.el l i).f2 (impl_TreeOk.el l i).f3 (impl_TreeOk.el l i).f4 (impl_TreeOk.el l i).f5 (impl_TreeOk.el l i).f6 = some true ∧ ((impl_TreeOk.prev l i = false ∧ bad = true) ∨ (impl_TreeOk.prev l i = true ∧ ∃ p d, impl_ParentOf.f k1 (impl_TreeOk.el l i).f0 = some p ∧ impl_isDirIn.f k1 (l.take i) p = some d ∧ bad = !d)))) ∧
 (bad = true → r = false) ∧ (bad = false → (0 ≤ (impl_TreeOk.el l i).f6 ∧ (impl_TreeOk.el l i).f6 ≤ 200) ∧ (if (impl_TreeOk.el l i).f6 = 0 then impl_TreeOk.l0 k1 l (i + 1) else ((impl_TreeOk.alike l (impl_TreeOk.el l i) i).bind fun a => (if a = true then impl_TreeOk.l0 k1 l (i + 1) else some false))) = some r) := by
 simp only [impl_TreeOk.l0] at H
 rw [if_pos hi] at H
 obtain ⟨b, hb, H⟩ := Option.bind_eq_some_iff.mp H
 cases b with
 | false =>
  rw [if_neg (by simp)] at H
  exact ⟨true, .inl ⟨hb, rfl⟩, fun _ => (Option.some.inj H).symm, fun h => by cases h⟩
 | true =>
  rw [if_pos rfl] at H
  cases hp : impl_TreeOk.prev l i with
  | false =>
   rw [hp, if_neg (by simp)] at H
   exact ⟨true, .inr ⟨hb, .inl ⟨rfl, rfl⟩⟩, fun _ => (Option.some.inj H).symm, fun h => by cases h⟩
  | true =>
   rw [hp, if_pos rfl] at H
   obtain ⟨p, hpp, H⟩ := Option.bind_eq_some_iff.mp H
   obtain ⟨d, hd, H⟩ := Option.bind_eq_some_iff.mp H
   cases d with
   | false =>
    rw [if_neg (by simp)] at H
    exact ⟨true, .inr ⟨hb, .inr ⟨rfl, p, false, hpp, hd, rfl⟩⟩, fun _ => (Option.some.inj H).symm, fun h => by cases h⟩
   | true =>
    rw [if_pos rfl] at H
    exact ⟨false, .inr ⟨hb, .inr ⟨rfl, p, true, hpp, hd, rfl⟩⟩, fun h => (by cases h), fun _ => ⟨impl_TreeOk.grp hb, H⟩⟩
theorem impl_TreeOk.mono_l : ∀ k, (∀ y0 y1, LeO (impl_TreeOk.l0 k y0 y1) (impl_TreeOk.l0 (k + 1) y0 y1))
 | 0 => fun _ _ r h => by simp [impl_TreeOk.l0] at h
 | k + 1 => by
  have ih0 := impl_TreeOk.mono_l k
  intro y0 y1
  unfold impl_TreeOk.l0
  repeat' first
  | (with_reducible exact ih0 _ _)
  | (with_reducible exact impl_NodeOk.mono _ _ _ _ _ _ _ _)
  | (with_reducible exact impl_ParentOf.mono _ _)
  | (with_reducible exact impl_isDirIn.mono _ _ _)
  | (with_reducible exact impl_areSmall.mono _ _)
  | (with_reducible exact LeO.refl _)
  | (with_reducible exact LeO.none _)
  | (with_reducible refine LeO.ite ?_ ?_)
  | (with_reducible refine LeO.bind ?_ (fun _ => ?_))
theorem impl_TreeOk.mono : ∀ a0 k, LeO (impl_TreeOk.f k a0) (impl_TreeOk.f (k + 1) a0) := by
 intro a0 k
 unfold impl_TreeOk.f
 exact LeO.ite (LeO.refl _) (impl_TreeOk.mono_l k _ _)
set_option maxHeartbeats 8000000 in
set_option maxRecDepth 100000 in
theorem impl_TreeOk.calls (k : Nat) (A0 : Option Addr) (c0 : Nat) (l0 : List S41) (r : Bool) (w : World) (hT : Tab w) (hr0 : Kd.C k41 w A0 l0.length l0) (hc0 : l0.length ≤ c0) (h : impl_TreeOk.f k l0 = some r) :
 Calls Tryd.prog 44 #[.slice A0 l0.length c0] w fun e w' => e = .returned (.bool r) ∧ Below w.heap.size w w' := by
 unfold impl_TreeOk.f at h
 by_cases hl : (l0.length : Int) > 200
 ·
  rw [if_pos hl] at h
  obtain rfl := Option.some.inj h
  have hb0 : decide ((200 : Int) < (l0.length : Int)) = true := decide_eq_true hl
  have hb1 : decide (200 < l0.length) = true := decide_eq_true (by omega)
  go_enter Tryd.func44, Tryd.ntmps44
  go_wp2
  go_ret
  exact ⟨rfl, Below.refl _ _⟩
 rw [if_neg hl] at h
 have hb0 : decide ((200 : Int) < (l0.length : Int)) = false := decide_eq_false hl
 have hb1 : decide (200 < l0.length) = false := decide_eq_false (by omega)
 have HL := Aside0.mk (show l0.length ≤ 200 by omega)
 have H0 := Aside0.mk h
 have HR0 := Aside0.mk hr0
 have HC0 := Aside0.mk hc0
 have hmm := @run_makeMap Tryd.prog
 have ho1 := World.ownsMap_made w Tryd.prog 3 impl_TreeOk.Rv
 have ho1b := ho1.alloc (Obj.map #[] 0)
 have ho2 := World.ownsMap_made (w.alloc (Obj.map #[] 0)) Tryd.prog 3 (plainElem (H := Value) Tryd.prog 3)
 rw [show (w.alloc (Obj.map #[] 0)).heap.size = w.heap.size + 1 by simp] at ho2
 have hB0 : Below w.heap.size w ((w.alloc (Obj.map #[] 0)).alloc (Obj.map #[] 0)) := below_alloc (below_alloc (Below.refl _ _) _) _
 have hz0 : ((w.alloc (Obj.map #[] 0)).alloc (Obj.map #[] 0)).heap.size = w.heap.size + 2 := by simp
 clear h hr0 hc0 hl ho1
 go_enter Tryd.func44, Tryd.ntmps44
 go_wp2
 clear hmm
 generalize ((w.alloc (Obj.map #[] 0)).alloc (Obj.map #[] 0)) = W0 at ho1b ho2 hB0 hz0 ⊢
 go_loopg [18] k (fun kq v18 w' => ∃ (i : Nat) (D1 D2 : DataW Value), v18 = .int .i64 (i : Int) ∧ Aside0 (impl_TreeOk.l0 kq l0 i = some r) ∧ Aside0 (i ≤ l0.length) ∧ Aside0 (impl_TreeOk.M1 l0 i D1) ∧ Aside0 (impl_TreeOk.M2 l0 i D2) ∧ Aside0 (w'.ownsMap Tryd.prog 3 impl_TreeOk.Rv w.heap.size i D1) ∧ Aside0 (w'.ownsMap Tryd.prog 3 (plainElem (H := Value) Tryd.prog 3) (w.heap.size + 1) i D2) ∧ Aside0 (Below w.heap.size w w') ∧ Aside0 (w.heap.size + 2 ≤ w'.heap.size))
 case atStart => exact ⟨0, _, _, rfl, H0, ⟨Nat.zero_le _⟩, ⟨fun g hg => ⟨rfl, fun f hf => by cases hf⟩⟩, ⟨⟨fun g hg => ⟨rfl, rfl⟩, fun kl hk => by cases hk⟩⟩, ⟨ho1b⟩, ⟨ho2⟩, ⟨hB0⟩, ⟨by omega⟩⟩
 case round =>
  clear H0 ho1b ho2 hB0 hz0
  obtain ⟨i, D1, D2, rfl, HA, HI, HM1, HM2, HO1, HO2, HB, HZ⟩ := hrel
  cases gk with
  | zero => exact absurd HA.out (by simp [impl_TreeOk.l0])
  | succ k1 =>
   by_cases hlt : (i : Int) < (l0.length : Int)
   ·
    have hltb : decide ((i : Int) < (l0.length : Int)) = true := decide_eq_true hlt
    have i0 : (0 : Int) ≤ (i : Int) := by omega
    obtain ⟨bad, hhow, hbad, hgo⟩ := impl_TreeOk.round (by omega) HA.out
    obtain ⟨ad, rfl, x0, x1, x2, x3, x4, x5, x6⟩ := at_T41 (Kd.C_below HR0.out HB.out) (i : Int) i0 hlt
    rw [Int.toNat_natCast] at x0 x1 x2 x3 x4 x5 x6
    have hel : rd_T41 l0 (i : Int) = impl_TreeOk.el l0 i := rfl
    rw [hel] at x0 x1 x2 x3 x4 x5 x6
    have HX := Aside0.mk hel
    clear hel HA
    have HH := Aside0.mk hhow
    have HBAD := Aside0.mk hbad
    have HGO := Aside0.mk hgo
    clear hhow hbad hgo
    obtain ⟨x, hx⟩ : ∃ x, x = impl_TreeOk.el l0 i := ⟨_, rfl⟩
    rw [← hx] at x0 x1 x2 x3 x4 x5 x6 HX HH HGO
    have NX := Aside0.mk hx
    clear hx
    go_upto_region 8 with fail
    have hg := heap_alloc_new wr (Obj.cells #[.string x.f0, .int .i64 x.f1, .int .i64 x.f2, .int .i64 x.f3, .string x.f4, .string x.f5, .int .i64 x.f6] 41)
    have hBa := below_alloc (Below.refl wr.heap.size wr) (Obj.cells #[.string x.f0, .int .i64 x.f1, .int .i64 x.f2, .int .i64 x.f3, .string x.f4, .string x.f5, .int .i64 x.f6] 41)
    have hza : (wr.alloc (Obj.cells #[.string x.f0, .int .i64 x.f1, .int .i64 x.f2, .int .i64 x.f3, .string x.f4, .string x.f5, .int .i64 x.f6] 41)).heap.size = wr.heap.size + 1 := by simp
    have hC1 := Kd.C_below (Kd.C_below HR0.out HB.out) hBa
    have hT1 := (hT.below HB.out).below hBa
    generalize hW1 : wr.alloc (Obj.cells #[.string x.f0, .int .i64 x.f1, .int .i64 x.f2, .int .i64 x.f3, .string x.f4, .string x.f5, .int .i64 x.f6] 41) = W1 at hg hBa hza hC1 hT1 ⊢
    clear hW1 x0 x1 x2 x3 x4 x5 x6
    have HBa := Aside0.mk hBa
    clear hBa
    generalize hg1 : wr.heap.size = g1 at hg hza ⊢
    obtain ⟨y0, y1, y2, y3, y4, y5, y6⟩ := impl_TreeOk.row7 hg
    have HG := Aside0.mk hg
    clear hg
    go_cut [50] (fun v50 wc => v50 = .bool bad ∧ Aside0 (Below W1.heap.size W1 wc))
    case first =>
     have hhow := HH.out
     clear HH
     rcases hhow with ⟨hn, rfl⟩ | ⟨hn, hrest⟩
     ·
      have HN := Aside0.mk hn
      clear hn
      refine start_ (n := 28) (S := fun w' => w'.cell? ⟨g1, 0, none⟩ = some (.string x.f0) ∧ w'.cell? ⟨g1, 1, none⟩ = some (.int .i64 x.f1) ∧ w'.cell? ⟨g1, 2, none⟩ = some (.int .i64 x.f2) ∧ w'.cell? ⟨g1, 3, none⟩ = some (.int .i64 x.f3) ∧ w'.cell? ⟨g1, 4, none⟩ = some (.string x.f4) ∧ w'.cell? ⟨g1, 5, none⟩ = some (.string x.f5) ∧ w'.cell? ⟨g1, 6, none⟩ = some (.int .i64 x.f6)) (ds := []) (bm 28 0) (by kernel_rfl) rfl rfl ⟨y0, y1, y2, y3, y4, y5, y6⟩ (fun hHeld => ?_); refine with_tabW impl_TreeOk.tab8 impl_TreeOk.bits8 (fun HT_ HW_ => ?_)
      have HBr := Aside0.mk (below_drew (Below.refl W1.heap.size W1))
      generalize W1.drew = wd at HBr hHeld ⊢
      refine take_ (i := 0) (N := some 23) (v := ?_) (a' := ?_) (bm 28 1) rfl rfl (take_ofW HT_.out HW_.out (by kernel_rfl)) (fun _ _ _ h => h) (Or.inl ⟨by rfl, ?_⟩) hHeld ?_ ?_; rotate_left; · (rintro w' ⟨s0, s1, s2, s3, s4, s5, s6⟩; go_simp; with_reducible rfl)
      rotate_left; · (simp only [Act.put, q1, q2, q3, q4, q5, q6, q7]; rfl)
      refine one_ (i := 1) (N := some 24) (bm 28 3) rfl rfl (one_of HT_.out (by kernel_rfl)) (by decide) (fun K hK => ?_)
      refine goes_ Tryd.func38 (by kernel_rfl) rfl #[.agg #[.string x.f0, .int .i64 x.f1, .int .i64 x.f2, .int .i64 x.f3, .string x.f4, .string x.f5, .int .i64 x.f6]] (by rfl) rfl rfl (by (try simp only [List.map_toArray, List.map_cons, List.map_nil]); first | done | rfl) ?_
      with_reducible refine (impl_NodeOk.calls k1 x.f0 x.f1 x.f2 x.f3 x.f4 x.f5 x.f6 false _ (hT1.below HBr.out) HN.out).mono ?_
      rintro e w6 ⟨rfl, hb⟩
      refine ⟨_, rfl, ?_⟩
      have n0_ := Aside0.mk (below_step HBr.out hb)
      clear HBr hb
      have HBr := n0_
      clear n0_
      refine hK.out _ _ ⟨pw_cell_below HBr.out y0, pw_cell_below HBr.out y1, pw_cell_below HBr.out y2, pw_cell_below HBr.out y3, pw_cell_below HBr.out y4, pw_cell_below HBr.out y5, pw_cell_below HBr.out y6⟩ (fun hHeld => ?_)
      clear hK K
      refine norm_ (a' := ?_) ?_ ?_
      rotate_left
      · (show Act.put _ (some 24) _ = _; simp only [Act.put, q1, q2, q3, q4, q5, q6, q7]; rfl)
      refine pure_ (i := 2) (N := some 25) (v := ?_) (a' := ?_) (bm 28 7) rfl rfl (any_of HT_.out (by kernel_rfl)) (fun _ _ _ h => h) (Or.inl ⟨by rfl, ?_⟩) ?_ ?_; rotate_left; · (intro w'; go_simp; with_reducible rfl)
      rotate_left; · (simp only [Act.put, q1, q2, q3, q4, q5, q6, q7]; rfl)
      refine pure_ (i := 3) (N := some 26) (v := ?_) (a' := ?_) (bm 28 15) rfl rfl (any_of HT_.out (by kernel_rfl)) (fun _ _ _ h => h) (Or.inl ⟨by rfl, ?_⟩) ?_ ?_; rotate_left; · (intro w'; go_simp; with_reducible rfl)
      rotate_left; · (simp only [Act.put, q1, q2, q3, q4, q5, q6, q7]; rfl)
      refine pure_ (i := 4) (N := some 27) (v := undef) (a' := ?_) (bm 28 31) rfl rfl (any_of HT_.out (by kernel_rfl)) (fun _ _ _ h => h) (Or.inr ⟨by rfl, rfl⟩) ?_ ?_; rotate_left; · (simp only [Act.put, q1, q2, q3, q4, q5, q6, q7]; rfl)
      refine pure_ (i := 5) (N := some 28) (v := undef) (a' := ?_) (bm 28 63) rfl rfl (any_of HT_.out (by kernel_rfl)) (fun _ _ _ h => h) (Or.inr ⟨by rfl, rfl⟩) ?_ ?_; rotate_left; · (simp only [Act.put, q1, q2, q3, q4, q5, q6, q7]; rfl)
      refine pure_ (i := 6) (N := some 29) (v := undef) (a' := ?_) (bm 28 127) rfl rfl (any_of HT_.out (by kernel_rfl)) (fun _ _ _ h => h) (Or.inr ⟨by rfl, rfl⟩) ?_ ?_; rotate_left; · (simp only [Act.put, q1, q2, q3, q4, q5, q6, q7]; rfl)
      refine pure_ (i := 7) (N := some 30) (v := undef) (a' := ?_) (bm 28 255) rfl rfl (any_of HT_.out (by kernel_rfl)) (fun _ _ _ h => h) (Or.inr ⟨by rfl, rfl⟩) ?_ ?_; rotate_left; · (simp only [Act.put, q1, q2, q3, q4, q5, q6, q7]; rfl)
      refine pure_ (i := 8) (N := some 31) (v := undef) (a' := ?_) (bm 28 511) rfl rfl (any_of HT_.out (by kernel_rfl)) (fun _ _ _ h => h) (Or.inr ⟨by rfl, rfl⟩) ?_ ?_; rotate_left; · (simp only [Act.put, q1, q2, q3, q4, q5, q6, q7]; rfl)
      refine pure_ (i := 9) (N := some 32) (v := undef) (a' := ?_) (bm 28 1023) rfl rfl (any_of HT_.out (by kernel_rfl)) (fun _ _ _ h => h) (Or.inr ⟨by rfl, rfl⟩) ?_ ?_; rotate_left; · (simp only [Act.put, q1, q2, q3, q4, q5, q6, q7]; rfl)
      refine pure_ (i := 10) (N := some 33) (v := undef) (a' := ?_) (bm 28 2047) rfl rfl (any_of HT_.out (by kernel_rfl)) (fun _ _ _ h => h) (Or.inr ⟨by rfl, rfl⟩) ?_ ?_; rotate_left; · (simp only [Act.put, q1, q2, q3, q4, q5, q6, q7]; rfl)
      refine pure_ (i := 11) (N := some 34) (v := undef) (a' := ?_) (bm 28 4095) rfl rfl (any_of HT_.out (by kernel_rfl)) (fun _ _ _ h => h) (Or.inr ⟨by rfl, rfl⟩) ?_ ?_; rotate_left; · (simp only [Act.put, q1, q2, q3, q4, q5, q6, q7]; rfl)
      refine pure_ (i := 12) (N := some 35) (v := undef) (a' := ?_) (bm 28 8191) rfl rfl (any_of HT_.out (by kernel_rfl)) (fun _ _ _ h => h) (Or.inr ⟨by rfl, rfl⟩) ?_ ?_; rotate_left; · (simp only [Act.put, q1, q2, q3, q4, q5, q6, q7]; rfl)
      refine pure_ (i := 13) (N := some 36) (v := undef) (a' := ?_) (bm 28 16383) rfl rfl (any_of HT_.out (by kernel_rfl)) (fun _ _ _ h => h) (Or.inr ⟨by rfl, rfl⟩) ?_ ?_; rotate_left; · (simp only [Act.put, q1, q2, q3, q4, q5, q6, q7]; rfl)
      refine pure_ (i := 14) (N := some 37) (v := undef) (a' := ?_) (bm 28 32767) rfl rfl (any_of HT_.out (by kernel_rfl)) (fun _ _ _ h => h) (Or.inr ⟨by rfl, rfl⟩) ?_ ?_; rotate_left; · (simp only [Act.put, q1, q2, q3, q4, q5, q6, q7]; rfl)
      refine pure_ (i := 15) (N := some 38) (v := undef) (a' := ?_) (bm 28 65535) rfl rfl (any_of HT_.out (by kernel_rfl)) (fun _ _ _ h => h) (Or.inr ⟨by rfl, rfl⟩) ?_ ?_; rotate_left; · (simp only [Act.put, q1, q2, q3, q4, q5, q6, q7]; rfl)
      refine pure_ (i := 16) (N := some 39) (v := undef) (a' := ?_) (bm 28 131071) rfl rfl (any_of HT_.out (by kernel_rfl)) (fun _ _ _ h => h) (Or.inr ⟨by rfl, rfl⟩) ?_ ?_; rotate_left; · (simp only [Act.put, q1, q2, q3, q4, q5, q6, q7]; rfl)
      refine pure_ (i := 17) (N := some 40) (v := ?_) (a' := ?_) (bm 28 262143) rfl rfl (any_of HT_.out (by kernel_rfl)) (fun _ _ _ h => h) (Or.inl ⟨by rfl, ?_⟩) ?_ ?_; rotate_left; · (intro w'; go_simp; with_reducible rfl)
      rotate_left; · (simp only [Act.put, q1, q2, q3, q4, q5, q6, q7]; rfl)
      refine pure_ (i := 18) (N := some 41) (v := ?_) (a' := ?_) (bm 28 524287) rfl rfl (any_of HT_.out (by kernel_rfl)) (fun _ _ _ h => h) (Or.inl ⟨by rfl, ?_⟩) ?_ ?_; rotate_left; · (intro w'; go_simp; with_reducible rfl)
      rotate_left; · (simp only [Act.put, q1, q2, q3, q4, q5, q6, q7]; rfl)
      refine pure_ (i := 19) (N := some 42) (v := undef) (a' := ?_) (bm 28 1048575) rfl rfl (any_of HT_.out (by kernel_rfl)) (fun _ _ _ h => h) (Or.inr ⟨by rfl, rfl⟩) ?_ ?_; rotate_left; · (simp only [Act.put, q1, q2, q3, q4, q5, q6, q7]; rfl)
      refine pure_ (i := 20) (N := some 43) (v := undef) (a' := ?_) (bm 28 2097151) rfl rfl (any_of HT_.out (by kernel_rfl)) (fun _ _ _ h => h) (Or.inr ⟨by rfl, rfl⟩) ?_ ?_; rotate_left; · (simp only [Act.put, q1, q2, q3, q4, q5, q6, q7]; rfl)
      refine pure_ (i := 21) (N := some 44) (v := undef) (a' := ?_) (bm 28 4194303) rfl rfl (any_of HT_.out (by kernel_rfl)) (fun _ _ _ h => h) (Or.inr ⟨by rfl, rfl⟩) ?_ ?_; rotate_left; · (simp only [Act.put, q1, q2, q3, q4, q5, q6, q7]; rfl)
      refine pure_ (i := 22) (N := some 45) (v := undef) (a' := ?_) (bm 28 8388607) rfl rfl (any_of HT_.out (by kernel_rfl)) (fun _ _ _ h => h) (Or.inr ⟨by rfl, rfl⟩) ?_ ?_; rotate_left; · (simp only [Act.put, q1, q2, q3, q4, q5, q6, q7]; rfl)
      refine pure_ (i := 23) (N := some 46) (v := undef) (a' := ?_) (bm 28 16777215) rfl rfl (any_of HT_.out (by kernel_rfl)) (fun _ _ _ h => h) (Or.inr ⟨by rfl, rfl⟩) ?_ ?_; rotate_left; · (simp only [Act.put, q1, q2, q3, q4, q5, q6, q7]; rfl)
      refine pure_ (i := 24) (N := some 47) (v := undef) (a' := ?_) (bm 28 33554431) rfl rfl (any_of HT_.out (by kernel_rfl)) (fun _ _ _ h => h) (Or.inr ⟨by rfl, rfl⟩) ?_ ?_; rotate_left; · (simp only [Act.put, q1, q2, q3, q4, q5, q6, q7]; rfl)
      refine pure_ (i := 25) (N := some 48) (v := undef) (a' := ?_) (bm 28 67108863) rfl rfl (any_of HT_.out (by kernel_rfl)) (fun _ _ _ h => h) (Or.inr ⟨by rfl, rfl⟩) ?_ ?_; rotate_left; · (simp only [Act.put, q1, q2, q3, q4, q5, q6, q7]; rfl)
      refine pure_ (i := 26) (N := some 49) (v := undef) (a' := ?_) (bm 28 134217727) rfl rfl (any_of HT_.out (by kernel_rfl)) (fun _ _ _ h => h) (Or.inr ⟨by rfl, rfl⟩) ?_ ?_; rotate_left; · (simp only [Act.put, q1, q2, q3, q4, q5, q6, q7]; rfl)
      refine pure_ (i := 27) (N := some 50) (v := ?_) (a' := ?_) (bm 28 268435455) rfl rfl (any_of HT_.out (by kernel_rfl)) (fun _ _ _ h => h) (Or.inl ⟨by rfl, ?_⟩) ?_ ?_; rotate_left; · (intro w'; go_simp; with_reducible rfl)
      rotate_left; · (simp only [Act.put, q1, q2, q3, q4, q5, q6, q7]; rfl)
      refine done_ (done_of HT_.out (by kernel_rfl)) ?_
      try go_wp2
      go_meet
      case rel => exact ⟨rfl, HBr⟩
     ·
      have HN := Aside0.mk hn
      clear hn
      by_cases hi0 : i = 0
      ·
       rcases hrest with ⟨hp, _⟩ | ⟨_, p, d, hpa, hd, rfl⟩
       ·
        exact absurd hp (by unfold impl_TreeOk.prev; simp [hi0])
       ·
        have hp0 : decide ((0 : Int) < (i : Int)) = false := decide_eq_false (by omega)
        have hp1 : decide (0 < i) = false := decide_eq_false (by omega)
        have HPa := Aside0.mk hpa
        have MD : ∀ w', Kd.C k41 w' (some ad) l0.length l0 → Calls Tryd.prog 63 #[.slice (some ad) i c0, .string p] w' fun e w'' => e = .returned (.bool d) ∧ Below w'.heap.size w' w'' := fun w' hC' => by
         have hle : (l0.take i).length = i := by rw [List.length_take]; omega
         have hC2 := Kd.C_take (m := i) hC' (by omega)
         have := impl_isDirIn.calls k1 (some ad) c0 (l0.take i) p d w' hC2 (by have := HC0.out; omega) hd
         rw [hle] at this
         exact this
        have hcap := eq_true (show i ≤ c0 by have := HC0.out; omega)
        have hcap2 := eq_true (show (i : Int) ≤ (c0 : Int) by have := HC0.out; omega)
        clear hpa hd hi0
        refine start_ (n := 28) (S := fun w' => w'.cell? ⟨g1, 0, none⟩ = some (.string x.f0) ∧ w'.cell? ⟨g1, 1, none⟩ = some (.int .i64 x.f1) ∧ w'.cell? ⟨g1, 2, none⟩ = some (.int .i64 x.f2) ∧ w'.cell? ⟨g1, 3, none⟩ = some (.int .i64 x.f3) ∧ w'.cell? ⟨g1, 4, none⟩ = some (.string x.f4) ∧ w'.cell? ⟨g1, 5, none⟩ = some (.string x.f5) ∧ w'.cell? ⟨g1, 6, none⟩ = some (.int .i64 x.f6)) (ds := []) (bm 28 0) (by kernel_rfl) rfl rfl ⟨y0, y1, y2, y3, y4, y5, y6⟩ (fun hHeld => ?_); refine with_tabW impl_TreeOk.tab8 impl_TreeOk.bits8 (fun HT_ HW_ => ?_)
        have HBr := Aside0.mk (below_drew (Below.refl W1.heap.size W1))
        generalize W1.drew = wd at HBr hHeld ⊢
        refine take_ (i := 0) (N := some 23) (v := ?_) (a' := ?_) (bm 28 1) rfl rfl (take_ofW HT_.out HW_.out (by kernel_rfl)) (fun _ _ _ h => h) (Or.inl ⟨by rfl, ?_⟩) hHeld ?_ ?_; rotate_left; · (rintro w' ⟨s0, s1, s2, s3, s4, s5, s6⟩; go_simp; with_reducible rfl)
        rotate_left; · (simp only [Act.put, q1, q2, q3, q4, q5, q6, q7]; rfl)
        refine one_ (i := 1) (N := some 24) (bm 28 3) rfl rfl (one_of HT_.out (by kernel_rfl)) (by decide) (fun K hK => ?_)
        refine goes_ Tryd.func38 (by kernel_rfl) rfl #[.agg #[.string x.f0, .int .i64 x.f1, .int .i64 x.f2, .int .i64 x.f3, .string x.f4, .string x.f5, .int .i64 x.f6]] (by rfl) rfl rfl (by (try simp only [List.map_toArray, List.map_cons, List.map_nil]); first | done | rfl) ?_
        with_reducible refine (impl_NodeOk.calls k1 x.f0 x.f1 x.f2 x.f3 x.f4 x.f5 x.f6 true _ (hT1.below HBr.out) HN.out).mono ?_
        rintro e w6 ⟨rfl, hb⟩
        refine ⟨_, rfl, ?_⟩
        have n0_ := Aside0.mk (below_step HBr.out hb)
        clear HBr hb
        have HBr := n0_
        clear n0_
        refine hK.out _ _ ⟨pw_cell_below HBr.out y0, pw_cell_below HBr.out y1, pw_cell_below HBr.out y2, pw_cell_below HBr.out y3, pw_cell_below HBr.out y4, pw_cell_below HBr.out y5, pw_cell_below HBr.out y6⟩ (fun hHeld => ?_)
        clear hK K
        refine norm_ (a' := ?_) ?_ ?_
        rotate_left
        · (show Act.put _ (some 24) _ = _; simp only [Act.put, q1, q2, q3, q4, q5, q6, q7]; rfl)
        refine pure_ (i := 2) (N := some 25) (v := ?_) (a' := ?_) (bm 28 7) rfl rfl (any_of HT_.out (by kernel_rfl)) (fun _ _ _ h => h) (Or.inl ⟨by rfl, ?_⟩) ?_ ?_; rotate_left; · (intro w'; go_simp; with_reducible rfl)
        rotate_left; · (simp only [Act.put, q1, q2, q3, q4, q5, q6, q7]; rfl)
        refine pure_ (i := 3) (N := some 26) (v := ?_) (a' := ?_) (bm 28 15) rfl rfl (any_of HT_.out (by kernel_rfl)) (fun _ _ _ h => h) (Or.inl ⟨by rfl, ?_⟩) ?_ ?_; rotate_left; · (intro w'; go_simp; with_reducible rfl)
        rotate_left; · (simp only [Act.put, q1, q2, q3, q4, q5, q6, q7]; rfl)
        refine pure_ (i := 4) (N := some 27) (v := ?_) (a' := ?_) (bm 28 31) rfl rfl (any_of HT_.out (by kernel_rfl)) (fun _ _ _ h => h) (Or.inl ⟨by rfl, ?_⟩) ?_ ?_; rotate_left; · (intro w'; go_simp; with_reducible rfl)
        rotate_left; · (simp only [Act.put, q1, q2, q3, q4, q5, q6, q7]; rfl)
        refine pure_ (i := 5) (N := some 28) (v := ?_) (a' := ?_) (bm 28 63) rfl rfl (any_of HT_.out (by kernel_rfl)) (fun _ _ _ h => h) (Or.inl ⟨by rfl, ?_⟩) ?_ ?_; rotate_left; · (intro w'; go_simp; with_reducible rfl)
        rotate_left; · (simp only [Act.put, q1, q2, q3, q4, q5, q6, q7]; rfl)
        refine pure_ (i := 6) (N := some 29) (v := ?_) (a' := ?_) (bm 28 127) rfl rfl (any_of HT_.out (by kernel_rfl)) (fun _ _ _ h => h) (Or.inl ⟨by rfl, ?_⟩) ?_ ?_; rotate_left; · (intro w'; go_simp; with_reducible rfl)
        rotate_left; · (simp only [Act.put, q1, q2, q3, q4, q5, q6, q7]; rfl)
        refine pure_ (i := 7) (N := some 30) (v := undef) (a' := ?_) (bm 28 255) rfl rfl (any_of HT_.out (by kernel_rfl)) (fun _ _ _ h => h) (Or.inr ⟨by rfl, rfl⟩) ?_ ?_; rotate_left; · (simp only [Act.put, q1, q2, q3, q4, q5, q6, q7]; rfl)
        refine pure_ (i := 8) (N := some 31) (v := undef) (a' := ?_) (bm 28 511) rfl rfl (any_of HT_.out (by kernel_rfl)) (fun _ _ _ h => h) (Or.inr ⟨by rfl, rfl⟩) ?_ ?_; rotate_left; · (simp only [Act.put, q1, q2, q3, q4, q5, q6, q7]; rfl)
        refine pure_ (i := 9) (N := some 32) (v := undef) (a' := ?_) (bm 28 1023) rfl rfl (any_of HT_.out (by kernel_rfl)) (fun _ _ _ h => h) (Or.inr ⟨by rfl, rfl⟩) ?_ ?_; rotate_left; · (simp only [Act.put, q1, q2, q3, q4, q5, q6, q7]; rfl)
        refine pure_ (i := 10) (N := some 33) (v := undef) (a' := ?_) (bm 28 2047) rfl rfl (any_of HT_.out (by kernel_rfl)) (fun _ _ _ h => h) (Or.inr ⟨by rfl, rfl⟩) ?_ ?_; rotate_left; · (simp only [Act.put, q1, q2, q3, q4, q5, q6, q7]; rfl)
        refine pure_ (i := 11) (N := some 34) (v := undef) (a' := ?_) (bm 28 4095) rfl rfl (any_of HT_.out (by kernel_rfl)) (fun _ _ _ h => h) (Or.inr ⟨by rfl, rfl⟩) ?_ ?_; rotate_left; · (simp only [Act.put, q1, q2, q3, q4, q5, q6, q7]; rfl)
        refine pure_ (i := 12) (N := some 35) (v := undef) (a' := ?_) (bm 28 8191) rfl rfl (any_of HT_.out (by kernel_rfl)) (fun _ _ _ h => h) (Or.inr ⟨by rfl, rfl⟩) ?_ ?_; rotate_left; · (simp only [Act.put, q1, q2, q3, q4, q5, q6, q7]; rfl)
        refine pure_ (i := 13) (N := some 36) (v := undef) (a' := ?_) (bm 28 16383) rfl rfl (any_of HT_.out (by kernel_rfl)) (fun _ _ _ h => h) (Or.inr ⟨by rfl, rfl⟩) ?_ ?_; rotate_left; · (simp only [Act.put, q1, q2, q3, q4, q5, q6, q7]; rfl)
        refine pure_ (i := 14) (N := some 37) (v := undef) (a' := ?_) (bm 28 32767) rfl rfl (any_of HT_.out (by kernel_rfl)) (fun _ _ _ h => h) (Or.inr ⟨by rfl, rfl⟩) ?_ ?_; rotate_left; · (simp only [Act.put, q1, q2, q3, q4, q5, q6, q7]; rfl)
        refine pure_ (i := 15) (N := some 38) (v := undef) (a' := ?_) (bm 28 65535) rfl rfl (any_of HT_.out (by kernel_rfl)) (fun _ _ _ h => h) (Or.inr ⟨by rfl, rfl⟩) ?_ ?_; rotate_left; · (simp only [Act.put, q1, q2, q3, q4, q5, q6, q7]; rfl)
        refine pure_ (i := 16) (N := some 39) (v := ?_) (a' := ?_) (bm 28 131071) rfl rfl (any_of HT_.out (by kernel_rfl)) (fun _ _ _ h => h) (Or.inl ⟨by rfl, ?_⟩) ?_ ?_; rotate_left; · (intro w'; go_simp; with_reducible rfl)
        rotate_left; · (simp only [Act.put, q1, q2, q3, q4, q5, q6, q7]; rfl)
        refine pure_ (i := 17) (N := some 40) (v := ?_) (a' := ?_) (bm 28 262143) rfl rfl (any_of HT_.out (by kernel_rfl)) (fun _ _ _ h => h) (Or.inl ⟨by rfl, ?_⟩) ?_ ?_; rotate_left; · (intro w'; go_simp; with_reducible rfl)
        rotate_left; · (simp only [Act.put, q1, q2, q3, q4, q5, q6, q7]; rfl)
        refine pure_ (i := 18) (N := some 41) (v := ?_) (a' := ?_) (bm 28 524287) rfl rfl (any_of HT_.out (by kernel_rfl)) (fun _ _ _ h => h) (Or.inl ⟨by rfl, ?_⟩) ?_ ?_; rotate_left; · (intro w'; go_simp; with_reducible rfl)
        rotate_left; · (simp only [Act.put, q1, q2, q3, q4, q5, q6, q7]; rfl)
        refine pure_ (i := 19) (N := some 42) (v := ?_) (a' := ?_) (bm 28 1048575) rfl rfl (any_of HT_.out (by kernel_rfl)) (fun _ _ _ h => h) (Or.inl ⟨by rfl, ?_⟩) ?_ ?_; rotate_left; · (intro w'; go_simp; with_reducible rfl)
        rotate_left; · (simp only [Act.put, q1, q2, q3, q4, q5, q6, q7]; rfl)
        refine pure_ (i := 20) (N := some 43) (v := ?_) (a' := ?_) (bm 28 2097151) rfl rfl (any_of HT_.out (by kernel_rfl)) (fun _ _ _ h => h) (Or.inl ⟨by rfl, ?_⟩) ?_ ?_; rotate_left; · (intro w'; go_simp; with_reducible rfl)
        rotate_left; · (simp only [Act.put, q1, q2, q3, q4, q5, q6, q7]; rfl)
        refine pure_ (i := 21) (N := some 44) (v := ?_) (a' := ?_) (bm 28 4194303) rfl rfl (any_of HT_.out (by kernel_rfl)) (fun _ _ _ h => h) (Or.inl ⟨by rfl, ?_⟩) ?_ ?_; rotate_left; · (intro w'; go_simp; with_reducible rfl)
        rotate_left; · (simp only [Act.put, q1, q2, q3, q4, q5, q6, q7]; rfl)
        refine pure_ (i := 22) (N := some 45) (v := ?_) (a' := ?_) (bm 28 8388607) rfl rfl (any_of HT_.out (by kernel_rfl)) (fun _ _ _ h => h) (Or.inl ⟨by rfl, ?_⟩) ?_ ?_; rotate_left; · (intro w'; go_simp; with_reducible rfl)
        rotate_left; · (simp only [Act.put, q1, q2, q3, q4, q5, q6, q7]; rfl)
        refine take_ (i := 23) (N := some 46) (v := ?_) (a' := ?_) (bm 28 16777215) rfl rfl (take_ofW HT_.out HW_.out (by kernel_rfl)) (fun _ _ _ h => h) (Or.inl ⟨by rfl, ?_⟩) hHeld ?_ ?_; rotate_left; · (rintro w' ⟨s0, s1, s2, s3, s4, s5, s6⟩; go_simp; with_reducible rfl)
        rotate_left; · (simp only [Act.put, q1, q2, q3, q4, q5, q6, q7]; rfl)
        refine one_ (i := 24) (N := some 47) (bm 28 33554431) rfl rfl (one_of HT_.out (by kernel_rfl)) (by decide) (fun K hK => ?_)
        refine goes_ Tryd.func40 (by kernel_rfl) rfl #[.string x.f0] (by rfl) rfl rfl (by (try simp only [List.map_toArray, List.map_cons, List.map_nil]); first | done | rfl) ?_
        with_reducible refine (impl_ParentOf.calls k1 x.f0 p _ (hT1.below HBr.out) HPa.out).mono ?_
        rintro e w6 ⟨rfl, hb⟩
        refine ⟨_, rfl, ?_⟩
        have n0_ := Aside0.mk (below_step HBr.out hb)
        clear HBr hb
        have HBr := n0_
        clear n0_
        refine hK.out _ _ ⟨pw_cell_below HBr.out y0, pw_cell_below HBr.out y1, pw_cell_below HBr.out y2, pw_cell_below HBr.out y3, pw_cell_below HBr.out y4, pw_cell_below HBr.out y5, pw_cell_below HBr.out y6⟩ (fun hHeld => ?_)
        clear hK K
        refine norm_ (a' := ?_) ?_ ?_
        rotate_left
        · (show Act.put _ (some 47) _ = _; simp only [Act.put, q1, q2, q3, q4, q5, q6, q7]; rfl)
        refine one_ (i := 25) (N := some 48) (bm 28 67108863) rfl rfl (one_of HT_.out (by kernel_rfl)) (by decide) (fun K hK => ?_)
        refine goes_ Tryd.func63 (by kernel_rfl) rfl #[.slice (some ad) i c0, .string p] (by rfl) rfl rfl (by (try simp only [List.map_toArray, List.map_cons, List.map_nil]); first | done | rfl) ?_
        with_reducible refine (MD _ (Kd.C_below hC1 HBr.out)).mono ?_
        rintro e w6 ⟨rfl, hb⟩
        refine ⟨_, rfl, ?_⟩
        have n0_ := Aside0.mk (below_step HBr.out hb)
        clear HBr hb
        have HBr := n0_
        clear n0_
        refine hK.out _ _ ⟨pw_cell_below HBr.out y0, pw_cell_below HBr.out y1, pw_cell_below HBr.out y2, pw_cell_below HBr.out y3, pw_cell_below HBr.out y4, pw_cell_below HBr.out y5, pw_cell_below HBr.out y6⟩ (fun hHeld => ?_)
        clear hK K
        refine norm_ (a' := ?_) ?_ ?_
        rotate_left
        · (show Act.put _ (some 48) _ = _; simp only [Act.put, q1, q2, q3, q4, q5, q6, q7]; rfl)
        refine pure_ (i := 26) (N := some 49) (v := ?_) (a' := ?_) (bm 28 134217727) rfl rfl (any_of HT_.out (by kernel_rfl)) (fun _ _ _ h => h) (Or.inl ⟨by rfl, ?_⟩) ?_ ?_; rotate_left; · (intro w'; go_simp; with_reducible rfl)
        rotate_left; · (simp only [Act.put, q1, q2, q3, q4, q5, q6, q7]; rfl)
        refine pure_ (i := 27) (N := some 50) (v := ?_) (a' := ?_) (bm 28 268435455) rfl rfl (any_of HT_.out (by kernel_rfl)) (fun _ _ _ h => h) (Or.inl ⟨by rfl, ?_⟩) ?_ ?_; rotate_left; · (intro w'; go_simp; with_reducible rfl)
        rotate_left; · (simp only [Act.put, q1, q2, q3, q4, q5, q6, q7]; rfl)
        refine done_ (done_of HT_.out (by kernel_rfl)) ?_
        try go_wp2
        go_meet
        case rel => exact ⟨rfl, HBr⟩
      ·
       obtain ⟨j, rfl⟩ : ∃ j, i = j + 1 := ⟨i - 1, by omega⟩
       have hp0 : decide ((0 : Int) < ((j + 1 : Nat) : Int)) = true := decide_eq_true (by omega)
       have hp1 : decide (0 < j + 1) = true := decide_eq_true (by omega)
       have hjw : IntKind.i64.wrap (((j + 1 : Nat) : Int) - 1) = (j : Int) := by rw [IntKind.wrap_i64]; have := HI.out; have := HL.out; omega
       have hjw2 : IntKind.i64.wrap ((j : Int) + 1 - 1) = (j : Int) := by rw [IntKind.wrap_i64]; have := HI.out; have := HL.out; omega
       have hjw3 : IntKind.i64.wrap (j : Int) = (j : Int) := by rw [IntKind.wrap_i64]; have := HI.out; have := HL.out; omega
       have hjw4 : wrap64 (j : Int) = (j : Int) := by rw [← q4]; exact hjw3
       have hj0 : (0 : Int) ≤ (j : Int) := by omega
       have hj1 : (j : Int) < (l0.length : Int) := by omega
       obtain ⟨ad2, e2, z0, z1, z2, z3, z4, z5, z6⟩ := at_T41 hC1 (j : Int) hj0 hj1
       obtain rfl : ad = ad2 := by injection e2
       rw [Int.toNat_natCast] at z0
       clear z1 z2 z3 z4 z5 z6 e2
       have hpr : impl_TreeOk.prev l0 (j + 1) = Op.bytesLess (rd_T41 l0 (j : Int)).f0.toList x.f0.toList := by unfold impl_TreeOk.prev; rw [← NX.out]; simp [impl_TreeOk.el]
       obtain ⟨y, hy⟩ : ∃ y, y = rd_T41 l0 (j : Int) := ⟨_, rfl⟩
       rw [← hy] at z0 hpr
       have hj0b := eq_true hj0
       have hj1b := eq_true hj1
       have hj0d := decide_eq_true hj0
       have hj1d := decide_eq_true hj1
       clear hy
       rcases hrest with ⟨hp, rfl⟩ | ⟨hp, p, d, hpa, hd, rfl⟩
       ·
        rw [hp] at hpr
        have hless := hpr.symm
        clear hpr hp
        refine start_ (n := 28) (S := fun w' => w'.cell? ⟨g1, 0, none⟩ = some (.string x.f0) ∧ w'.cell? ⟨g1, 1, none⟩ = some (.int .i64 x.f1) ∧ w'.cell? ⟨g1, 2, none⟩ = some (.int .i64 x.f2) ∧ w'.cell? ⟨g1, 3, none⟩ = some (.int .i64 x.f3) ∧ w'.cell? ⟨g1, 4, none⟩ = some (.string x.f4) ∧ w'.cell? ⟨g1, 5, none⟩ = some (.string x.f5) ∧ w'.cell? ⟨g1, 6, none⟩ = some (.int .i64 x.f6) ∧ w'.cell? (ad.add (j * 7)) = some (.string y.f0)) (ds := []) (bm 28 0) (by kernel_rfl) rfl rfl ⟨y0, y1, y2, y3, y4, y5, y6, z0⟩ (fun hHeld => ?_); refine with_tabW impl_TreeOk.tab8 impl_TreeOk.bits8 (fun HT_ HW_ => ?_)
        have HBr := Aside0.mk (below_drew (Below.refl W1.heap.size W1))
        generalize W1.drew = wd at HBr hHeld ⊢
        refine take_ (i := 0) (N := some 23) (v := ?_) (a' := ?_) (bm 28 1) rfl rfl (take_ofW HT_.out HW_.out (by kernel_rfl)) (fun _ _ _ h => h) (Or.inl ⟨by rfl, ?_⟩) hHeld ?_ ?_; rotate_left; · (rintro w' ⟨s0, s1, s2, s3, s4, s5, s6, s7⟩; go_simp; with_reducible rfl)
        rotate_left; · (simp only [Act.put, q1, q2, q3, q4, q5, q6, q7]; rfl)
        refine one_ (i := 1) (N := some 24) (bm 28 3) rfl rfl (one_of HT_.out (by kernel_rfl)) (by decide) (fun K hK => ?_)
        refine goes_ Tryd.func38 (by kernel_rfl) rfl #[.agg #[.string x.f0, .int .i64 x.f1, .int .i64 x.f2, .int .i64 x.f3, .string x.f4, .string x.f5, .int .i64 x.f6]] (by rfl) rfl rfl (by (try simp only [List.map_toArray, List.map_cons, List.map_nil]); first | done | rfl) ?_
        with_reducible refine (impl_NodeOk.calls k1 x.f0 x.f1 x.f2 x.f3 x.f4 x.f5 x.f6 true _ (hT1.below HBr.out) HN.out).mono ?_
        rintro e w6 ⟨rfl, hb⟩
        refine ⟨_, rfl, ?_⟩
        have n0_ := Aside0.mk (below_step HBr.out hb)
        clear HBr hb
        have HBr := n0_
        clear n0_
        refine hK.out _ _ ⟨pw_cell_below HBr.out y0, pw_cell_below HBr.out y1, pw_cell_below HBr.out y2, pw_cell_below HBr.out y3, pw_cell_below HBr.out y4, pw_cell_below HBr.out y5, pw_cell_below HBr.out y6, pw_cell_below HBr.out z0⟩ (fun hHeld => ?_)
        clear hK K
        refine norm_ (a' := ?_) ?_ ?_
        rotate_left
        · (show Act.put _ (some 24) _ = _; simp only [Act.put, q1, q2, q3, q4, q5, q6, q7]; rfl)
        refine pure_ (i := 2) (N := some 25) (v := ?_) (a' := ?_) (bm 28 7) rfl rfl (any_of HT_.out (by kernel_rfl)) (fun _ _ _ h => h) (Or.inl ⟨by rfl, ?_⟩) ?_ ?_; rotate_left; · (intro w'; go_simp; with_reducible rfl)
        rotate_left; · (simp only [Act.put, q1, q2, q3, q4, q5, q6, q7]; rfl)
        refine pure_ (i := 3) (N := some 26) (v := ?_) (a' := ?_) (bm 28 15) rfl rfl (any_of HT_.out (by kernel_rfl)) (fun _ _ _ h => h) (Or.inl ⟨by rfl, ?_⟩) ?_ ?_; rotate_left; · (intro w'; go_simp; with_reducible rfl)
        rotate_left; · (simp only [Act.put, q1, q2, q3, q4, q5, q6, q7]; rfl)
        refine pure_ (i := 4) (N := some 27) (v := ?_) (a' := ?_) (bm 28 31) rfl rfl (any_of HT_.out (by kernel_rfl)) (fun _ _ _ h => h) (Or.inl ⟨by rfl, ?_⟩) ?_ ?_; rotate_left; · (intro w'; go_simp; with_reducible rfl)
        rotate_left; · (simp only [Act.put, q1, q2, q3, q4, q5, q6, q7]; rfl)
        refine pure_ (i := 5) (N := some 28) (v := ?_) (a' := ?_) (bm 28 63) rfl rfl (any_of HT_.out (by kernel_rfl)) (fun _ _ _ h => h) (Or.inl ⟨by rfl, ?_⟩) ?_ ?_; rotate_left; · (intro w'; go_simp; with_reducible rfl)
        rotate_left; · (simp only [Act.put, q1, q2, q3, q4, q5, q6, q7]; rfl)
        refine pure_ (i := 6) (N := some 29) (v := ?_) (a' := ?_) (bm 28 127) rfl rfl (any_of HT_.out (by kernel_rfl)) (fun _ _ _ h => h) (Or.inl ⟨by rfl, ?_⟩) ?_ ?_; rotate_left; · (intro w'; go_simp; with_reducible rfl)
        rotate_left; · (simp only [Act.put, q1, q2, q3, q4, q5, q6, q7]; rfl)
        refine pure_ (i := 7) (N := some 30) (v := ?_) (a' := ?_) (bm 28 255) rfl rfl (any_of HT_.out (by kernel_rfl)) (fun _ _ _ h => h) (Or.inl ⟨by rfl, ?_⟩) ?_ ?_; rotate_left; · (intro w'; go_simp; with_reducible rfl)
        rotate_left; · (simp only [Act.put, q1, q2, q3, q4, q5, q6, q7]; rfl)
        refine pure_ (i := 8) (N := some 31) (v := ?_) (a' := ?_) (bm 28 511) rfl rfl (any_of HT_.out (by kernel_rfl)) (fun _ _ _ h => h) (Or.inl ⟨by rfl, ?_⟩) ?_ ?_; rotate_left; · (intro w'; go_simp; with_reducible rfl)
        rotate_left; · (simp only [Act.put, q1, q2, q3, q4, q5, q6, q7]; rfl)
        refine pure_ (i := 9) (N := some 32) (v := ?_) (a' := ?_) (bm 28 1023) rfl rfl (any_of HT_.out (by kernel_rfl)) (fun _ _ _ h => h) (Or.inl ⟨by rfl, ?_⟩) ?_ ?_; rotate_left; · (intro w'; go_simp; with_reducible rfl)
        rotate_left; · (simp only [Act.put, q1, q2, q3, q4, q5, q6, q7]; rfl)
        refine pure_ (i := 10) (N := some 33) (v := ?_) (a' := ?_) (bm 28 2047) rfl rfl (any_of HT_.out (by kernel_rfl)) (fun _ _ _ h => h) (Or.inl ⟨by rfl, ?_⟩) ?_ ?_; rotate_left; · (intro w'; go_simp; with_reducible rfl)
        rotate_left; · (simp only [Act.put, q1, q2, q3, q4, q5, q6, q7]; rfl)
        refine pure_ (i := 11) (N := some 34) (v := ?_) (a' := ?_) (bm 28 4095) rfl rfl (any_of HT_.out (by kernel_rfl)) (fun _ _ _ h => h) (Or.inl ⟨by rfl, ?_⟩) ?_ ?_; rotate_left; · (intro w'; go_simp; with_reducible rfl)
        rotate_left; · (simp only [Act.put, q1, q2, q3, q4, q5, q6, q7]; rfl)
        refine pure_ (i := 13) (N := some 36) (v := ?_) (a' := ?_) (bm 28 12287) rfl rfl (any_of HT_.out (by kernel_rfl)) (fun _ _ _ h => h) (Or.inl ⟨by rfl, ?_⟩) ?_ ?_; rotate_left; · (intro w'; go_simp; with_reducible rfl)
        rotate_left; · (simp only [Act.put, q1, q2, q3, q4, q5, q6, q7]; rfl)
        refine take_ (i := 12) (N := some 35) (v := ?_) (a' := ?_) (bm 28 16383) rfl rfl (take_ofW HT_.out HW_.out (by kernel_rfl)) (fun _ _ _ h => h) (Or.inl ⟨by rfl, ?_⟩) hHeld ?_ ?_; rotate_left; · (rintro w' ⟨s0, s1, s2, s3, s4, s5, s6, s7⟩; go_simp; with_reducible rfl)
        rotate_left; · (simp only [Act.put, q1, q2, q3, q4, q5, q6, q7]; rfl)
        refine take_ (i := 14) (N := some 37) (v := ?_) (a' := ?_) (bm 28 32767) rfl rfl (take_ofW HT_.out HW_.out (by kernel_rfl)) (fun _ _ _ h => h) (Or.inl ⟨by rfl, ?_⟩) hHeld ?_ ?_; rotate_left; · (rintro w' ⟨s0, s1, s2, s3, s4, s5, s6, s7⟩; go_simp; with_reducible rfl)
        rotate_left; · (simp only [Act.put, q1, q2, q3, q4, q5, q6, q7]; rfl)
        refine pure_ (i := 15) (N := some 38) (v := ?_) (a' := ?_) (bm 28 65535) rfl rfl (any_of HT_.out (by kernel_rfl)) (fun _ _ _ h => h) (Or.inl ⟨by rfl, ?_⟩) ?_ ?_; rotate_left; · (intro w'; go_simp; with_reducible rfl)
        rotate_left; · (simp only [Act.put, q1, q2, q3, q4, q5, q6, q7]; rfl)
        refine pure_ (i := 16) (N := some 39) (v := ?_) (a' := ?_) (bm 28 131071) rfl rfl (any_of HT_.out (by kernel_rfl)) (fun _ _ _ h => h) (Or.inl ⟨by rfl, ?_⟩) ?_ ?_; rotate_left; · (intro w'; go_simp; with_reducible rfl)
        rotate_left; · (simp only [Act.put, q1, q2, q3, q4, q5, q6, q7]; rfl)
        refine pure_ (i := 17) (N := some 40) (v := ?_) (a' := ?_) (bm 28 262143) rfl rfl (any_of HT_.out (by kernel_rfl)) (fun _ _ _ h => h) (Or.inl ⟨by rfl, ?_⟩) ?_ ?_; rotate_left; · (intro w'; go_simp; with_reducible rfl)
        rotate_left; · (simp only [Act.put, q1, q2, q3, q4, q5, q6, q7]; rfl)
        refine pure_ (i := 18) (N := some 41) (v := ?_) (a' := ?_) (bm 28 524287) rfl rfl (any_of HT_.out (by kernel_rfl)) (fun _ _ _ h => h) (Or.inl ⟨by rfl, ?_⟩) ?_ ?_; rotate_left; · (intro w'; go_simp; with_reducible rfl)
        rotate_left; · (simp only [Act.put, q1, q2, q3, q4, q5, q6, q7]; rfl)
        refine pure_ (i := 19) (N := some 42) (v := undef) (a' := ?_) (bm 28 1048575) rfl rfl (any_of HT_.out (by kernel_rfl)) (fun _ _ _ h => h) (Or.inr ⟨by rfl, rfl⟩) ?_ ?_; rotate_left; · (simp only [Act.put, q1, q2, q3, q4, q5, q6, q7]; rfl)
        refine pure_ (i := 20) (N := some 43) (v := undef) (a' := ?_) (bm 28 2097151) rfl rfl (any_of HT_.out (by kernel_rfl)) (fun _ _ _ h => h) (Or.inr ⟨by rfl, rfl⟩) ?_ ?_; rotate_left; · (simp only [Act.put, q1, q2, q3, q4, q5, q6, q7]; rfl)
        refine pure_ (i := 21) (N := some 44) (v := undef) (a' := ?_) (bm 28 4194303) rfl rfl (any_of HT_.out (by kernel_rfl)) (fun _ _ _ h => h) (Or.inr ⟨by rfl, rfl⟩) ?_ ?_; rotate_left; · (simp only [Act.put, q1, q2, q3, q4, q5, q6, q7]; rfl)
        refine pure_ (i := 22) (N := some 45) (v := undef) (a' := ?_) (bm 28 8388607) rfl rfl (any_of HT_.out (by kernel_rfl)) (fun _ _ _ h => h) (Or.inr ⟨by rfl, rfl⟩) ?_ ?_; rotate_left; · (simp only [Act.put, q1, q2, q3, q4, q5, q6, q7]; rfl)
        refine pure_ (i := 23) (N := some 46) (v := undef) (a' := ?_) (bm 28 16777215) rfl rfl (any_of HT_.out (by kernel_rfl)) (fun _ _ _ h => h) (Or.inr ⟨by rfl, rfl⟩) ?_ ?_; rotate_left; · (simp only [Act.put, q1, q2, q3, q4, q5, q6, q7]; rfl)
        refine pure_ (i := 24) (N := some 47) (v := undef) (a' := ?_) (bm 28 33554431) rfl rfl (any_of HT_.out (by kernel_rfl)) (fun _ _ _ h => h) (Or.inr ⟨by rfl, rfl⟩) ?_ ?_; rotate_left; · (simp only [Act.put, q1, q2, q3, q4, q5, q6, q7]; rfl)
        refine pure_ (i := 25) (N := some 48) (v := undef) (a' := ?_) (bm 28 67108863) rfl rfl (any_of HT_.out (by kernel_rfl)) (fun _ _ _ h => h) (Or.inr ⟨by rfl, rfl⟩) ?_ ?_; rotate_left; · (simp only [Act.put, q1, q2, q3, q4, q5, q6, q7]; rfl)
        refine pure_ (i := 26) (N := some 49) (v := undef) (a' := ?_) (bm 28 134217727) rfl rfl (any_of HT_.out (by kernel_rfl)) (fun _ _ _ h => h) (Or.inr ⟨by rfl, rfl⟩) ?_ ?_; rotate_left; · (simp only [Act.put, q1, q2, q3, q4, q5, q6, q7]; rfl)
        refine pure_ (i := 27) (N := some 50) (v := ?_) (a' := ?_) (bm 28 268435455) rfl rfl (any_of HT_.out (by kernel_rfl)) (fun _ _ _ h => h) (Or.inl ⟨by rfl, ?_⟩) ?_ ?_; rotate_left; · (intro w'; go_simp; with_reducible rfl)
        rotate_left; · (simp only [Act.put, q1, q2, q3, q4, q5, q6, q7]; rfl)
        refine done_ (done_of HT_.out (by kernel_rfl)) ?_
        try go_wp2
        go_meet
        case rel => exact ⟨rfl, HBr⟩
       ·
        rw [hp] at hpr
        have hless := hpr.symm
        have HPa := Aside0.mk hpa
        have MD : ∀ w', Kd.C k41 w' (some ad) l0.length l0 → Calls Tryd.prog 63 #[.slice (some ad) (j + 1) c0, .string p] w' fun e w'' => e = .returned (.bool d) ∧ Below w'.heap.size w' w'' := fun w' hC' => by
         have hle : (l0.take (j + 1)).length = j + 1 := by rw [List.length_take]; omega
         have hC2 := Kd.C_take (m := j + 1) hC' (by omega)
         have := impl_isDirIn.calls k1 (some ad) c0 (l0.take (j + 1)) p d w' hC2 (by have := HC0.out; omega) hd
         rw [hle] at this
         exact this
        have hcap := eq_true (show j + 1 ≤ c0 by have := HC0.out; omega)
        have hcap2 := eq_true (show (j : Int) + 1 ≤ (c0 : Int) by have := HC0.out; omega)
        have hcap3 := eq_true (show (0 : Int) ≤ (j : Int) + 1 by omega)
        clear hpr hp hpa hd
        refine start_ (n := 28) (S := fun w' => w'.cell? ⟨g1, 0, none⟩ = some (.string x.f0) ∧ w'.cell? ⟨g1, 1, none⟩ = some (.int .i64 x.f1) ∧ w'.cell? ⟨g1, 2, none⟩ = some (.int .i64 x.f2) ∧ w'.cell? ⟨g1, 3, none⟩ = some (.int .i64 x.f3) ∧ w'.cell? ⟨g1, 4, none⟩ = some (.string x.f4) ∧ w'.cell? ⟨g1, 5, none⟩ = some (.string x.f5) ∧ w'.cell? ⟨g1, 6, none⟩ = some (.int .i64 x.f6) ∧ w'.cell? (ad.add (j * 7)) = some (.string y.f0)) (ds := []) (bm 28 0) (by kernel_rfl) rfl rfl ⟨y0, y1, y2, y3, y4, y5, y6, z0⟩ (fun hHeld => ?_); refine with_tabW impl_TreeOk.tab8 impl_TreeOk.bits8 (fun HT_ HW_ => ?_)
        have HBr := Aside0.mk (below_drew (Below.refl W1.heap.size W1))
        generalize W1.drew = wd at HBr hHeld ⊢
        refine take_ (i := 0) (N := some 23) (v := ?_) (a' := ?_) (bm 28 1) rfl rfl (take_ofW HT_.out HW_.out (by kernel_rfl)) (fun _ _ _ h => h) (Or.inl ⟨by rfl, ?_⟩) hHeld ?_ ?_; rotate_left; · (rintro w' ⟨s0, s1, s2, s3, s4, s5, s6, s7⟩; go_simp; with_reducible rfl)
        rotate_left; · (simp only [Act.put, q1, q2, q3, q4, q5, q6, q7]; rfl)
        refine one_ (i := 1) (N := some 24) (bm 28 3) rfl rfl (one_of HT_.out (by kernel_rfl)) (by decide) (fun K hK => ?_)
        refine goes_ Tryd.func38 (by kernel_rfl) rfl #[.agg #[.string x.f0, .int .i64 x.f1, .int .i64 x.f2, .int .i64 x.f3, .string x.f4, .string x.f5, .int .i64 x.f6]] (by rfl) rfl rfl (by (try simp only [List.map_toArray, List.map_cons, List.map_nil]); first | done | rfl) ?_
        with_reducible refine (impl_NodeOk.calls k1 x.f0 x.f1 x.f2 x.f3 x.f4 x.f5 x.f6 true _ (hT1.below HBr.out) HN.out).mono ?_
        rintro e w6 ⟨rfl, hb⟩
        refine ⟨_, rfl, ?_⟩
        have n0_ := Aside0.mk (below_step HBr.out hb)
        clear HBr hb
        have HBr := n0_
        clear n0_
        refine hK.out _ _ ⟨pw_cell_below HBr.out y0, pw_cell_below HBr.out y1, pw_cell_below HBr.out y2, pw_cell_below HBr.out y3, pw_cell_below HBr.out y4, pw_cell_below HBr.out y5, pw_cell_below HBr.out y6, pw_cell_below HBr.out z0⟩ (fun hHeld => ?_)
        clear hK K
        refine norm_ (a' := ?_) ?_ ?_
        rotate_left
        · (show Act.put _ (some 24) _ = _; simp only [Act.put, q1, q2, q3, q4, q5, q6, q7]; rfl)
        refine pure_ (i := 2) (N := some 25) (v := ?_) (a' := ?_) (bm 28 7) rfl rfl (any_of HT_.out (by kernel_rfl)) (fun _ _ _ h => h) (Or.inl ⟨by rfl, ?_⟩) ?_ ?_; rotate_left; · (intro w'; go_simp; with_reducible rfl)
        rotate_left; · (simp only [Act.put, q1, q2, q3, q4, q5, q6, q7]; rfl)
        refine pure_ (i := 3) (N := some 26) (v := ?_) (a' := ?_) (bm 28 15) rfl rfl (any_of HT_.out (by kernel_rfl)) (fun _ _ _ h => h) (Or.inl ⟨by rfl, ?_⟩) ?_ ?_; rotate_left; · (intro w'; go_simp; with_reducible rfl)
        rotate_left; · (simp only [Act.put, q1, q2, q3, q4, q5, q6, q7]; rfl)
        refine pure_ (i := 4) (N := some 27) (v := ?_) (a' := ?_) (bm 28 31) rfl rfl (any_of HT_.out (by kernel_rfl)) (fun _ _ _ h => h) (Or.inl ⟨by rfl, ?_⟩) ?_ ?_; rotate_left; · (intro w'; go_simp; with_reducible rfl)
        rotate_left; · (simp only [Act.put, q1, q2, q3, q4, q5, q6, q7]; rfl)
        refine pure_ (i := 5) (N := some 28) (v := ?_) (a' := ?_) (bm 28 63) rfl rfl (any_of HT_.out (by kernel_rfl)) (fun _ _ _ h => h) (Or.inl ⟨by rfl, ?_⟩) ?_ ?_; rotate_left; · (intro w'; go_simp; with_reducible rfl)
        rotate_left; · (simp only [Act.put, q1, q2, q3, q4, q5, q6, q7]; rfl)
        refine pure_ (i := 6) (N := some 29) (v := ?_) (a' := ?_) (bm 28 127) rfl rfl (any_of HT_.out (by kernel_rfl)) (fun _ _ _ h => h) (Or.inl ⟨by rfl, ?_⟩) ?_ ?_; rotate_left; · (intro w'; go_simp; with_reducible rfl)
        rotate_left; · (simp only [Act.put, q1, q2, q3, q4, q5, q6, q7]; rfl)
        refine pure_ (i := 7) (N := some 30) (v := ?_) (a' := ?_) (bm 28 255) rfl rfl (any_of HT_.out (by kernel_rfl)) (fun _ _ _ h => h) (Or.inl ⟨by rfl, ?_⟩) ?_ ?_; rotate_left; · (intro w'; go_simp; with_reducible rfl)
        rotate_left; · (simp only [Act.put, q1, q2, q3, q4, q5, q6, q7]; rfl)
        refine pure_ (i := 8) (N := some 31) (v := ?_) (a' := ?_) (bm 28 511) rfl rfl (any_of HT_.out (by kernel_rfl)) (fun _ _ _ h => h) (Or.inl ⟨by rfl, ?_⟩) ?_ ?_; rotate_left; · (intro w'; go_simp; with_reducible rfl)
        rotate_left; · (simp only [Act.put, q1, q2, q3, q4, q5, q6, q7]; rfl)
        refine pure_ (i := 9) (N := some 32) (v := ?_) (a' := ?_) (bm 28 1023) rfl rfl (any_of HT_.out (by kernel_rfl)) (fun _ _ _ h => h) (Or.inl ⟨by rfl, ?_⟩) ?_ ?_; rotate_left; · (intro w'; go_simp; with_reducible rfl)
        rotate_left; · (simp only [Act.put, q1, q2, q3, q4, q5, q6, q7]; rfl)
        refine pure_ (i := 10) (N := some 33) (v := ?_) (a' := ?_) (bm 28 2047) rfl rfl (any_of HT_.out (by kernel_rfl)) (fun _ _ _ h => h) (Or.inl ⟨by rfl, ?_⟩) ?_ ?_; rotate_left; · (intro w'; go_simp; with_reducible rfl)
        rotate_left; · (simp only [Act.put, q1, q2, q3, q4, q5, q6, q7]; rfl)
        refine pure_ (i := 11) (N := some 34) (v := ?_) (a' := ?_) (bm 28 4095) rfl rfl (any_of HT_.out (by kernel_rfl)) (fun _ _ _ h => h) (Or.inl ⟨by rfl, ?_⟩) ?_ ?_; rotate_left; · (intro w'; go_simp; with_reducible rfl)
        rotate_left; · (simp only [Act.put, q1, q2, q3, q4, q5, q6, q7]; rfl)
        refine pure_ (i := 13) (N := some 36) (v := ?_) (a' := ?_) (bm 28 12287) rfl rfl (any_of HT_.out (by kernel_rfl)) (fun _ _ _ h => h) (Or.inl ⟨by rfl, ?_⟩) ?_ ?_; rotate_left; · (intro w'; go_simp; with_reducible rfl)
        rotate_left; · (simp only [Act.put, q1, q2, q3, q4, q5, q6, q7]; rfl)
        refine take_ (i := 12) (N := some 35) (v := ?_) (a' := ?_) (bm 28 16383) rfl rfl (take_ofW HT_.out HW_.out (by kernel_rfl)) (fun _ _ _ h => h) (Or.inl ⟨by rfl, ?_⟩) hHeld ?_ ?_; rotate_left; · (rintro w' ⟨s0, s1, s2, s3, s4, s5, s6, s7⟩; go_simp; with_reducible rfl)
        rotate_left; · (simp only [Act.put, q1, q2, q3, q4, q5, q6, q7]; rfl)
        refine take_ (i := 14) (N := some 37) (v := ?_) (a' := ?_) (bm 28 32767) rfl rfl (take_ofW HT_.out HW_.out (by kernel_rfl)) (fun _ _ _ h => h) (Or.inl ⟨by rfl, ?_⟩) hHeld ?_ ?_; rotate_left; · (rintro w' ⟨s0, s1, s2, s3, s4, s5, s6, s7⟩; go_simp; with_reducible rfl)
        rotate_left; · (simp only [Act.put, q1, q2, q3, q4, q5, q6, q7]; rfl)
        refine pure_ (i := 15) (N := some 38) (v := ?_) (a' := ?_) (bm 28 65535) rfl rfl (any_of HT_.out (by kernel_rfl)) (fun _ _ _ h => h) (Or.inl ⟨by rfl, ?_⟩) ?_ ?_; rotate_left; · (intro w'; go_simp; with_reducible rfl)
        rotate_left; · (simp only [Act.put, q1, q2, q3, q4, q5, q6, q7]; rfl)
        refine pure_ (i := 16) (N := some 39) (v := ?_) (a' := ?_) (bm 28 131071) rfl rfl (any_of HT_.out (by kernel_rfl)) (fun _ _ _ h => h) (Or.inl ⟨by rfl, ?_⟩) ?_ ?_; rotate_left; · (intro w'; go_simp; with_reducible rfl)
        rotate_left; · (simp only [Act.put, q1, q2, q3, q4, q5, q6, q7]; rfl)
        refine pure_ (i := 17) (N := some 40) (v := ?_) (a' := ?_) (bm 28 262143) rfl rfl (any_of HT_.out (by kernel_rfl)) (fun _ _ _ h => h) (Or.inl ⟨by rfl, ?_⟩) ?_ ?_; rotate_left; · (intro w'; go_simp; with_reducible rfl)
        rotate_left; · (simp only [Act.put, q1, q2, q3, q4, q5, q6, q7]; rfl)
        refine pure_ (i := 18) (N := some 41) (v := ?_) (a' := ?_) (bm 28 524287) rfl rfl (any_of HT_.out (by kernel_rfl)) (fun _ _ _ h => h) (Or.inl ⟨by rfl, ?_⟩) ?_ ?_; rotate_left; · (intro w'; go_simp; with_reducible rfl)
        rotate_left; · (simp only [Act.put, q1, q2, q3, q4, q5, q6, q7]; rfl)
        refine pure_ (i := 19) (N := some 42) (v := ?_) (a' := ?_) (bm 28 1048575) rfl rfl (any_of HT_.out (by kernel_rfl)) (fun _ _ _ h => h) (Or.inl ⟨by rfl, ?_⟩) ?_ ?_; rotate_left; · (intro w'; go_simp; with_reducible rfl)
        rotate_left; · (simp only [Act.put, q1, q2, q3, q4, q5, q6, q7]; rfl)
        refine pure_ (i := 20) (N := some 43) (v := ?_) (a' := ?_) (bm 28 2097151) rfl rfl (any_of HT_.out (by kernel_rfl)) (fun _ _ _ h => h) (Or.inl ⟨by rfl, ?_⟩) ?_ ?_; rotate_left; · (intro w'; go_simp; with_reducible rfl)
        rotate_left; · (simp only [Act.put, q1, q2, q3, q4, q5, q6, q7]; rfl)
        refine pure_ (i := 21) (N := some 44) (v := ?_) (a' := ?_) (bm 28 4194303) rfl rfl (any_of HT_.out (by kernel_rfl)) (fun _ _ _ h => h) (Or.inl ⟨by rfl, ?_⟩) ?_ ?_; rotate_left; · (intro w'; go_simp; with_reducible rfl)
        rotate_left; · (simp only [Act.put, q1, q2, q3, q4, q5, q6, q7]; rfl)
        refine pure_ (i := 22) (N := some 45) (v := ?_) (a' := ?_) (bm 28 8388607) rfl rfl (any_of HT_.out (by kernel_rfl)) (fun _ _ _ h => h) (Or.inl ⟨by rfl, ?_⟩) ?_ ?_; rotate_left; · (intro w'; go_simp; with_reducible rfl)
        rotate_left; · (simp only [Act.put, q1, q2, q3, q4, q5, q6, q7]; rfl)
        refine take_ (i := 23) (N := some 46) (v := ?_) (a' := ?_) (bm 28 16777215) rfl rfl (take_ofW HT_.out HW_.out (by kernel_rfl)) (fun _ _ _ h => h) (Or.inl ⟨by rfl, ?_⟩) hHeld ?_ ?_; rotate_left; · (rintro w' ⟨s0, s1, s2, s3, s4, s5, s6, s7⟩; go_simp; with_reducible rfl)
        rotate_left; · (simp only [Act.put, q1, q2, q3, q4, q5, q6, q7]; rfl)
        refine one_ (i := 24) (N := some 47) (bm 28 33554431) rfl rfl (one_of HT_.out (by kernel_rfl)) (by decide) (fun K hK => ?_)
        refine goes_ Tryd.func40 (by kernel_rfl) rfl #[.string x.f0] (by rfl) rfl rfl (by (try simp only [List.map_toArray, List.map_cons, List.map_nil]); first | done | rfl) ?_
        with_reducible refine (impl_ParentOf.calls k1 x.f0 p _ (hT1.below HBr.out) HPa.out).mono ?_
        rintro e w6 ⟨rfl, hb⟩
        refine ⟨_, rfl, ?_⟩
        have n0_ := Aside0.mk (below_step HBr.out hb)
        clear HBr hb
        have HBr := n0_
        clear n0_
        refine hK.out _ _ ⟨pw_cell_below HBr.out y0, pw_cell_below HBr.out y1, pw_cell_below HBr.out y2, pw_cell_below HBr.out y3, pw_cell_below HBr.out y4, pw_cell_below HBr.out y5, pw_cell_below HBr.out y6, pw_cell_below HBr.out z0⟩ (fun hHeld => ?_)
        clear hK K
        refine norm_ (a' := ?_) ?_ ?_
        rotate_left
        · (show Act.put _ (some 47) _ = _; simp only [Act.put, q1, q2, q3, q4, q5, q6, q7]; rfl)
        refine one_ (i := 25) (N := some 48) (bm 28 67108863) rfl rfl (one_of HT_.out (by kernel_rfl)) (by decide) (fun K hK => ?_)
        refine goes_ Tryd.func63 (by kernel_rfl) rfl #[.slice (some ad) (j + 1) c0, .string p] (by rfl) rfl rfl (by (try simp only [List.map_toArray, List.map_cons, List.map_nil]); first | done | rfl) ?_
        with_reducible refine (MD _ (Kd.C_below hC1 HBr.out)).mono ?_
        rintro e w6 ⟨rfl, hb⟩
        refine ⟨_, rfl, ?_⟩
        have n0_ := Aside0.mk (below_step HBr.out hb)
        clear HBr hb
        have HBr := n0_
        clear n0_
        refine hK.out _ _ ⟨pw_cell_below HBr.out y0, pw_cell_below HBr.out y1, pw_cell_below HBr.out y2, pw_cell_below HBr.out y3, pw_cell_below HBr.out y4, pw_cell_below HBr.out y5, pw_cell_below HBr.out y6, pw_cell_below HBr.out z0⟩ (fun hHeld => ?_)
        clear hK K
        refine norm_ (a' := ?_) ?_ ?_
        rotate_left
        · (show Act.put _ (some 48) _ = _; simp only [Act.put, q1, q2, q3, q4, q5, q6, q7]; rfl)
        refine pure_ (i := 26) (N := some 49) (v := ?_) (a' := ?_) (bm 28 134217727) rfl rfl (any_of HT_.out (by kernel_rfl)) (fun _ _ _ h => h) (Or.inl ⟨by rfl, ?_⟩) ?_ ?_; rotate_left; · (intro w'; go_simp; with_reducible rfl)
        rotate_left; · (simp only [Act.put, q1, q2, q3, q4, q5, q6, q7]; rfl)
        refine pure_ (i := 27) (N := some 50) (v := ?_) (a' := ?_) (bm 28 268435455) rfl rfl (any_of HT_.out (by kernel_rfl)) (fun _ _ _ h => h) (Or.inl ⟨by rfl, ?_⟩) ?_ ?_; rotate_left; · (intro w'; go_simp; with_reducible rfl)
        rotate_left; · (simp only [Act.put, q1, q2, q3, q4, q5, q6, q7]; rfl)
        refine done_ (done_of HT_.out (by kernel_rfl)) ?_
        try go_wp2
        go_meet
        case rel => exact ⟨rfl, HBr⟩
    case rest =>
     obtain ⟨rfl, HBc⟩ := hcut
     clear HH y0 y1 y2 y3 y4 y5 y6
     have hgc := (HBc.out.block g1 (by omega)).trans HG.out
     have hzc := HBc.out.size
     have HBw : Aside0 (Below w.heap.size w wc) := ⟨below_step (below_step HB.out HBa.out) HBc.out⟩
     have hz2 := HZ.out
     have ho1 := impl_TreeOk.owns_kept HO1.out (((HBa.out.trans (HBc.out.mono (by omega))).block w.heap.size (by omega)) : wc.heap[w.heap.size]? = wr.heap[w.heap.size]?)
     have ho2 := impl_TreeOk.owns_kept HO2.out (((HBa.out.trans (HBc.out.mono (by omega))).block (w.heap.size + 1) (by omega)) : wc.heap[w.heap.size + 1]? = wr.heap[w.heap.size + 1]?)
     obtain ⟨y0, y1, y2, y3, y4, y5, y6⟩ := impl_TreeOk.row7 hgc
     cases bad with
     | true =>
      obtain rfl := HBAD.out rfl
      go_wp2
      go_ret
      exact ⟨rfl, HBw.out⟩
     | false =>
      obtain ⟨hf, hgo⟩ := HGO.out rfl
      clear HBAD HGO
      have hiw : IntKind.i64.wrap ((i : Int) + 1) = ((i + 1 : Nat) : Int) := by rw [IntKind.wrap_i64]; have := HI.out; have := HL.out; omega
      by_cases hx0 : x.f6 = 0
      ·
       have HD := Aside0.mk (show impl_TreeOk.l0 k1 l0 (i + 1) = some r by rw [if_pos hx0] at hgo; exact hgo)
       clear hgo
       have hx0b : (x.f6 == 0) = true := by rw [hx0]; rfl
       go_wp2
       go_roundg k1
       case measure => omega
       case rel => exact ⟨i + 1, D1, D2, by first | exact congrArg (Value.int .i64) hiw | simp [hiw] | trace_state, HD, ⟨by omega⟩, ⟨impl_TreeOk.M1_skip HM1.out (by rw [← NX.out]; exact hx0)⟩, ⟨impl_TreeOk.M2_skip HM2.out (by rw [← NX.out]; exact hx0)⟩, ⟨ho1.mono (by omega)⟩, ⟨ho2.mono (by omega)⟩, HBw, ⟨by omega⟩⟩
      ·
       rw [if_neg hx0] at hgo
       have hx0b : (x.f6 == 0) = false := by simp [hx0]
       have hown1 : ∀ D : DataW Value, True := fun _ => trivial
       obtain ⟨a, hal, hgo⟩ := Option.bind_eq_some_iff.mp hgo
       have hm1 := HM1.out x.f6 hx0
       have hm2 := HM2.out.1 x.f6 hx0
       have hwf := impl_TreeOk.wfG hf
       have hi200 : i < 200 := by have := HL.out; omega
       have hmax : i < maxLen := by unfold maxLen; omega
       have hg1 : w.heap.size + 2 ≤ g1 := by omega
       have hgs : g1 < wc.heap.size := by omega
       have hgr := World.grownBy_alloc wc (Obj.cells #[.string (⟨#[]⟩ : ByteArray), .int .i64 0, .int .i64 0, .int .i64 0, .string (⟨#[]⟩ : ByteArray), .string (⟨#[]⟩ : ByteArray), .int .i64 0] 41) none
       unfold impl_TreeOk.alike at hal
       cases hlast : impl_TreeOk.last l0 x.f6 i with
       | none =>
        rw [hlast] at hal hm1
        obtain rfl := Option.some.inj hal
        rw [if_pos rfl] at hgo
        have HD := Aside0.mk hgo
        have hz : D1.atKey (.int .i64 x.f6) (.held impl_TreeOk.zV) = .held impl_TreeOk.zV := Maps.atKey_of_not_has hm1.1 _
        have hno := hm1.1
        clear hm1 hal hlast hgo hgr
        go_upto_region 14 with (first
         | (at_lookup; refine impl_TreeOk.look rfl _ _ rfl _ _ D1 rfl ho1 x.f6 hwf rfl _ _ hz hno ?_; unfold impl_TreeOk.zV)
         | go_in)
        have ho1b := ho1.alloc (Obj.cells #[.string (⟨#[]⟩ : ByteArray), .int .i64 0, .int .i64 0, .int .i64 0, .string (⟨#[]⟩ : ByteArray), .string (⟨#[]⟩ : ByteArray), .int .i64 0] 41)
        have ho2b := ho2.alloc (Obj.cells #[.string (⟨#[]⟩ : ByteArray), .int .i64 0, .int .i64 0, .int .i64 0, .string (⟨#[]⟩ : ByteArray), .string (⟨#[]⟩ : ByteArray), .int .i64 0] 41)
        have hBb := below_alloc HBw.out (Obj.cells #[.string (⟨#[]⟩ : ByteArray), .int .i64 0, .int .i64 0, .int .i64 0, .string (⟨#[]⟩ : ByteArray), .string (⟨#[]⟩ : ByteArray), .int .i64 0] 41)
        have hgb := (heap_alloc_old wc (Obj.cells #[.string (⟨#[]⟩ : ByteArray), .int .i64 0, .int .i64 0, .int .i64 0, .string (⟨#[]⟩ : ByteArray), .string (⟨#[]⟩ : ByteArray), .int .i64 0] 41) hgs).trans hgc
        have hzb : wc.heap.size ≤ (wc.alloc (Obj.cells #[.string (⟨#[]⟩ : ByteArray), .int .i64 0, .int .i64 0, .int .i64 0, .string (⟨#[]⟩ : ByteArray), .string (⟨#[]⟩ : ByteArray), .int .i64 0] 41)).heap.size := by simp
        generalize (wc.alloc (Obj.cells #[.string (⟨#[]⟩ : ByteArray), .int .i64 0, .int .i64 0, .int .i64 0, .string (⟨#[]⟩ : ByteArray), .string (⟨#[]⟩ : ByteArray), .int .i64 0] 41)) = W2 at ho1b ho2b hBb hgb hzb ⊢
        clear y0 y1 y2 y3 y4 y5 y6
        obtain ⟨y0, y1, y2, y3, y4, y5, y6⟩ := impl_TreeOk.row7 hgb
        go_upto_region 15 with (first
         | (at_mapUpdate; refine wpList_mapUpdate_own _ rfl _ _ _ 61 rfl 3 41 impl_TreeOk.law3 Tryd.underlying61 impl_TreeOk.Rv w.heap.size i D1 rfl ho1b hmax _ _ (.int .i64 x.f6) rfl rfl (Maps.keyOf_int_mk Tryd.underlying3 hwf) _ _ rfl ?_; intro W4 hown3 hgrow3)
         | go_in)
        have hgb4 := (hgrow3.block g1 (by omega) (by simp; omega)).trans hgb
        have HB4 := Aside0.mk (hBb.grown hgrow3 (by omega) (by intro k hk; cases hk; omega))
        have ho2c := ho2b.kept hgrow3 (by simp)
        have hz4 := hgrow3.size
        clear y0 y1 y2 y3 y4 y5 y6 hgrow3
        obtain ⟨y0, y1, y2, y3, y4, y5, y6⟩ := impl_TreeOk.row7 hgb4
        have HM2x := Aside0.mk hm2.2
        clear hm2
        go_wp2_with (first
         | (at_lookup; refine wpList_lookup_own_int _ rfl _ _ 62 rfl 3 3 .i64 impl_TreeOk.law3 Tryd.underlying62 Tryd.underlying3 (impl_TreeOk.zI _) (w.heap.size + 1) i D2 rfl ho2c _ (.int .i64 x.f6) rfl (Maps.keyOf_int_mk Tryd.underlying3 hwf) ?_; intro c hc hcw; obtain ⟨hcc, hcwr, hpl⟩ := impl_TreeOk.cFacts hi200 HM2x.out hc; have HCC := Aside0.mk hcc; clear hc hcc hcw)
         | (at_mapUpdate; refine wpList_mapUpdate_own _ rfl _ _ _ 62 rfl 3 3 impl_TreeOk.law3 Tryd.underlying62 (plainElem (H := Value) Tryd.prog 3) (w.heap.size + 1) i D2 rfl ho2c hmax _ _ (.int .i64 x.f6) rfl rfl (Maps.keyOf_int_mk Tryd.underlying3 hwf) _ _ (by assumption) ?_; intro W5 hown5 hgrow5)
         | go_in)
        have hM2 := impl_TreeOk.M2_put HM2.out ho2c.isMap (show (impl_TreeOk.el l0 i).f6 ≠ 0 by rw [← NX.out]; exact hx0)
        rename_i hpl HCC
        rw [← NX.out, ← HCC.out] at hM2
        have HM2' := Aside0.mk hM2
        clear hM2
        have hM1 := impl_TreeOk.M1_put HM1.out ho1b.isMap (show (impl_TreeOk.el l0 i).f6 ≠ 0 by rw [← NX.out]; exact hx0)
        rw [← NX.out] at hM1
        go_roundg k1
        case measure => omega
        case rel => exact ⟨i + 1, _, _, by first | exact congrArg (Value.int .i64) hiw | simp [hiw], HD, ⟨by omega⟩, ⟨hM1⟩, HM2', ⟨hown3.kept hgrow5 (by simp)⟩, ⟨hown5⟩, ⟨HB4.out.grown hgrow5 (by omega) (by intro k hk; cases hk; omega)⟩, ⟨by have := hgrow5.size; omega⟩⟩
       | some f =>
        rw [hlast] at hal hm1
        have hz := hm1.2 f rfl
        have hno : Maps.has D1 (.int .i64 x.f6) = true := hm1.1
        clear hm1 hlast hgr
        have HAL := Aside0.mk hal
        have HGO2 := Aside0.mk hgo
        clear hal hgo
        go_upto_region 12 with (first
         | (at_lookup; refine impl_TreeOk.look rfl _ _ rfl _ _ D1 rfl ho1 x.f6 hwf rfl _ _ hz hno ?_; unfold impl_TreeOk.nodeV)
         | go_in)
        have ho1b := ho1.alloc (Obj.cells #[.string f.f0, .int .i64 f.f1, .int .i64 f.f2, .int .i64 f.f3, .string f.f4, .string f.f5, .int .i64 f.f6] 41)
        have ho2b := ho2.alloc (Obj.cells #[.string f.f0, .int .i64 f.f1, .int .i64 f.f2, .int .i64 f.f3, .string f.f4, .string f.f5, .int .i64 f.f6] 41)
        have hBb := below_alloc HBw.out (Obj.cells #[.string f.f0, .int .i64 f.f1, .int .i64 f.f2, .int .i64 f.f3, .string f.f4, .string f.f5, .int .i64 f.f6] 41)
        have hgb := (heap_alloc_old wc (Obj.cells #[.string f.f0, .int .i64 f.f1, .int .i64 f.f2, .int .i64 f.f3, .string f.f4, .string f.f5, .int .i64 f.f6] 41) hgs).trans hgc
        have hgn := heap_alloc_new wc (Obj.cells #[.string f.f0, .int .i64 f.f1, .int .i64 f.f2, .int .i64 f.f3, .string f.f4, .string f.f5, .int .i64 f.f6] 41)
        have hzb : wc.heap.size ≤ (wc.alloc (Obj.cells #[.string f.f0, .int .i64 f.f1, .int .i64 f.f2, .int .i64 f.f3, .string f.f4, .string f.f5, .int .i64 f.f6] 41)).heap.size := by simp
        generalize (wc.alloc (Obj.cells #[.string f.f0, .int .i64 f.f1, .int .i64 f.f2, .int .i64 f.f3, .string f.f4, .string f.f5, .int .i64 f.f6] 41)) = W3 at ho1b ho2b hBb hgb hgn hzb ⊢
        clear y0 y1 y2 y3 y4 y5 y6
        obtain ⟨y0, y1, y2, y3, y4, y5, y6⟩ := impl_TreeOk.row7 hgb
        obtain ⟨z0, z1, z2, z3, z4, z5, z6⟩ := impl_TreeOk.row7 hgn
        cases a with
        | false =>
         obtain rfl := Option.some.inj (show some false = some r by have := HGO2.out; rw [if_neg (by simp)] at this; exact this)
         go_wp2_with (first
          | (go_at_call 64; refine (impl_isAlike.calls f.f0 f.f1 f.f2 f.f3 f.f4 f.f5 f.f6 x.f0 x.f1 x.f2 x.f3 x.f4 x.f5 x.f6 false _ HAL.out).mono ?_; rintro e W2 ⟨rfl, hb2⟩)
          | go_in)
         go_ret
         exact ⟨rfl, below_step hBb hb2⟩
        | true =>
         have HD := Aside0.mk (show impl_TreeOk.l0 k1 l0 (i + 1) = some r by have := HGO2.out; rw [if_pos rfl] at this; exact this)
         go_upto_region 14 with (first
          | (go_at_call 64; refine (impl_isAlike.calls f.f0 f.f1 f.f2 f.f3 f.f4 f.f5 f.f6 x.f0 x.f1 x.f2 x.f3 x.f4 x.f5 x.f6 true _ HAL.out).mono ?_; rintro e W2 ⟨rfl, hb2⟩)
          | go_in)
         have ho1b := impl_TreeOk.owns_kept ho1b (hb2.block _ (by omega))
         have ho2b := impl_TreeOk.owns_kept ho2b (hb2.block _ (by omega))
         have hgb := (hb2.block g1 (by omega)).trans hgb
         have hBb := below_step hBb hb2
         have hzb : wc.heap.size ≤ W2.heap.size := Nat.le_trans hzb hb2.size
         clear HGO2 HAL hb2 y0 y1 y2 y3 y4 y5 y6 z0 z1 z2 z3 z4 z5 z6
         obtain ⟨y0, y1, y2, y3, y4, y5, y6⟩ := impl_TreeOk.row7 hgb
         go_upto_region 15 with (first
          | (at_mapUpdate; refine wpList_mapUpdate_own _ rfl _ _ _ 61 rfl 3 41 impl_TreeOk.law3 Tryd.underlying61 impl_TreeOk.Rv w.heap.size i D1 rfl ho1b hmax _ _ (.int .i64 x.f6) rfl rfl (Maps.keyOf_int_mk Tryd.underlying3 hwf) _ _ rfl ?_; intro W4 hown3 hgrow3)
          | go_in)
         have hgb4 := (hgrow3.block g1 (by omega) (by simp; omega)).trans hgb
         have HB4 := Aside0.mk (hBb.grown hgrow3 (by omega) (by intro k hk; cases hk; omega))
         have ho2c := ho2b.kept hgrow3 (by simp)
         have hz4 := hgrow3.size
         clear y0 y1 y2 y3 y4 y5 y6 hgrow3
         obtain ⟨y0, y1, y2, y3, y4, y5, y6⟩ := impl_TreeOk.row7 hgb4
         have HM2x := Aside0.mk hm2.2
         clear hm2
         go_wp2_with (first
          | (at_lookup; refine wpList_lookup_own_int _ rfl _ _ 62 rfl 3 3 .i64 impl_TreeOk.law3 Tryd.underlying62 Tryd.underlying3 (impl_TreeOk.zI _) (w.heap.size + 1) i D2 rfl ho2c _ (.int .i64 x.f6) rfl (Maps.keyOf_int_mk Tryd.underlying3 hwf) ?_; intro c hc hcw; obtain ⟨hcc, hcwr, hpl⟩ := impl_TreeOk.cFacts hi200 HM2x.out hc; have HCC := Aside0.mk hcc; clear hc hcc hcw)
          | (at_mapUpdate; refine wpList_mapUpdate_own _ rfl _ _ _ 62 rfl 3 3 impl_TreeOk.law3 Tryd.underlying62 (plainElem (H := Value) Tryd.prog 3) (w.heap.size + 1) i D2 rfl ho2c hmax _ _ (.int .i64 x.f6) rfl rfl (Maps.keyOf_int_mk Tryd.underlying3 hwf) _ _ (by assumption) ?_; intro W5 hown5 hgrow5)
          | go_in)
         have hM2 := impl_TreeOk.M2_put HM2.out ho2c.isMap (show (impl_TreeOk.el l0 i).f6 ≠ 0 by rw [← NX.out]; exact hx0)
         rename_i hpl HCC
         rw [← NX.out, ← HCC.out] at hM2
         have HM2' := Aside0.mk hM2
         clear hM2
         have hM1 := impl_TreeOk.M1_put HM1.out ho1b.isMap (show (impl_TreeOk.el l0 i).f6 ≠ 0 by rw [← NX.out]; exact hx0)
         rw [← NX.out] at hM1
         go_roundg k1
         case measure => omega
         case rel => exact ⟨i + 1, _, _, by first | exact congrArg (Value.int .i64) hiw | simp [hiw], HD, ⟨by omega⟩, ⟨hM1⟩, HM2', ⟨hown3.kept hgrow5 (by simp)⟩, ⟨hown5⟩, ⟨HB4.out.grown hgrow5 (by omega) (by intro k hk; cases hk; omega)⟩, ⟨by have := hgrow5.size; omega⟩⟩
   ·
    have hltb : decide ((i : Int) < (l0.length : Int)) = false := decide_eq_false hlt
    have hz2 := HZ.out
    have hil : i = l0.length := by have := HI.out; omega
    clear hlt
    subst hil
    have H := HA.out
    simp only [impl_TreeOk.l0] at H
    rw [if_neg (by omega)] at H
    have HH := Aside0.mk H
    clear H HA
    have ho2 := HO2.out
    go_wp2_with (first
     | (at_range; refine wpList_range_own _ rfl _ 62 rfl 3 3 impl_TreeOk.law3 Tryd.underlying62 _ (w.heap.size + 1) l0.length D2 rfl ho2 ?_; intro w0 hrg0 hg0 hs0)
     | go_in)
    have HB0 := Aside0.mk (HB.out.grown hg0 (by omega) (by simp))
    go_frame
    go_loopw [10] (fun _ wq => ∃ (left : Lit → Bool) (cnt : Nat), wq.ranges Tryd.prog 3 (plainElem (H := Value) Tryd.prog 3) (w.heap.size + 1) wr.heap.size l0.length D2 left cnt ∧ Aside0 (∀ g : Int, g ≠ 0 → Maps.has D2 (.int .i64 g) = true → left (.int .i64 g) = true ∨ 2 ≤ impl_TreeOk.cnt l0 g l0.length) ∧ Aside0 (∀ kl, left kl = true → Maps.has D2 kl = true) ∧ Aside0 (Below w.heap.size w wq))
     (fun _ wq => wq.rangeLeft (w.heap.size + 1) wr.heap.size)
    case atStart => exact ⟨_, _, hrg0, ⟨fun g hg h => .inl h⟩, ⟨fun kl h => h⟩, HB0⟩
    case round =>
     rename World => wq
     obtain ⟨left, cnt, hrg, HL1, HL2, HBq⟩ := hrel
     clear hrg0 hg0 hs0 HB0
     go_wp2_with (first
      | (at_next; refine wpList_next_ranges_ii _ rfl _ rfl 3 3 .i64 .i64 impl_TreeOk.law3 Tryd.underlying3 Tryd.underlying3 (w.heap.size + 1) wr.heap.size l0.length _ _ _ rfl hrg ?_ ?_)
      | go_in)
     ·
      intro _ hl0
      have H3 := Aside0.mk (show impl_areSmall.f k1 l0 = some r by
       have := HH.out
       rw [impl_TreeOk.lone_false HM2.out (fun g hg h => (HL1.out g hg h).resolve_left (by rw [hl0]; simp)), if_neg (by simp)] at this
       exact this)
      clear HH HL1 HL2
      go_wp2_with (first
       | (go_at_call 65; refine (impl_areSmall.calls k1 A0 c0 l0 r _ (Kd.C_below HR0.out HBq.out) HC0.out H3.out).mono ?_; rintro e w2 ⟨rfl, hb2⟩)
       | go_in)
      go_ret
      exact ⟨rfl, below_step HBq.out hb2⟩
     ·
      intro x c w1 cnt1 hwx hwc hlx hat hrg1 hlt1 hg1 hs1 hen
      have hHas := HL2.out _ hlx
      have hatc := impl_TreeOk.atCnt HM2.out hHas hat
      have hwrw := hrg.lt
      have HB1 := Aside0.mk (HBq.out.grown hg1 (by have := HBq.out.size; omega) (by intro k hk; cases hk; omega))
      by_cases hc2 : c < 2
      ·
       obtain rfl : r = false := by
        have := HH.out
        rw [impl_TreeOk.lone_true HM2.out hHas hat hc2, if_pos rfl] at this
        exact (Option.some.inj this).symm
       have hcb : decide (c < 2) = true := decide_eq_true hc2
       clear hc2 hatc hat
       go_wp2
       go_ret
       exact ⟨rfl, HB1.out⟩
      ·
       have hcb : decide (c < 2) = false := decide_eq_false hc2
       have hn1 := Aside0.mk (show ∀ g : Int, g ≠ 0 → Maps.has D2 (.int .i64 g) = true → ((left (.int .i64 g) && !(Lit.int .i64 g).sameKey (.int .i64 x)) = true) ∨ 2 ≤ impl_TreeOk.cnt l0 g l0.length from fun g hg h => by
        rcases HL1.out g hg h with hl | h2
        ·
         by_cases e : g = x
         ·
          subst e; exact .inr (by omega)
         ·
          exact .inl (by rw [hl]; simp [Lit.sameKey, e])
        ·
         exact .inr h2)
       have hn2 := Aside0.mk (show ∀ kl, (left kl && !kl.sameKey (.int .i64 x)) = true → Maps.has D2 kl = true from fun kl h => HL2.out kl (by simp at h; exact h.1))
       have hme : w1.rangeLeft (w.heap.size + 1) wr.heap.size < wq.rangeLeft (w.heap.size + 1) wr.heap.size := by rw [hrg1.left_eq, hrg.left_eq]; exact hlt1
       clear hc2 hatc hat HL1 HL2 hHas hrg
       go_wp2
       go_roundw
       case rel => exact ⟨_, cnt1, hrg1, hn1, hn2, HB1⟩
       case measure => exact hme

end Go.Proofs.YtnfihjebbhjgjaaDoor.PSm
