/- The law on paths returns true at every code: its plain statement, and its walk. No condition. -/
import Derived.Test.YtnfihjebbhjgjaaDoorPPax3
import Derived.Test.YtnfihjebbhjgjaaDoorPPax5
import Derived.Test.YtnfihjebbhjgjaaDoorPPax7
import Derived.Test.YtnfihjebbhjgjaaDoorPPax9
import Derived.Test.YtnfihjebbhjgjaaDoorPPax10
import Derived.Test.YtnfihjebbhjgjaaDoorOpen
import Derived.Test.YtnfihjebbhjgjaaDoorDrawUnder
import Derived.Test.YtnfihjebbhjgjaaDoorPureFnExactDeepOf
import Derived.Test.YtnfihjebbhjgjaaDoorPureFnExactBaseOf
import Derived.Test.YtnfihjebbhjgjaaDoorPureFnExactJoinPath
import Derived.Test.YtnfihjebbhjgjaaDoorPureFnExactUnder
import Derived.Test.YtnfihjebbhjgjaaDoorPureFnExactParentOf
import Derived.Test.YtnfihjebbhjgjaaDoorTabM
namespace Go.Proofs.YtnfihjebbhjgjaaDoor.WalkFnPaths
open Go Go.RowKit Go.Proofs.YtnfihjebbhjgjaaDoor.PPa Go.Proofs.YtnfihjebbhjgjaaDoorW.PrintWords Go.Proofs.YtnfihjebbhjgjaaDoorW.PrintMore Go.Proofs.YtnfihjebbhjgjaaDoor.Arith Go.Proofs.YtnfihjebbhjgjaaDoor.Lib Go.Proofs.YtnfihjebbhjgjaaDoor.Parts Go.Proofs.YtnfihjebbhjgjaaDoor.Paths Go.Proofs.YtnfihjebbhjgjaaDoor.Pure
set_option linter.unusedSimpArgs false
set_option linter.unusedVariables false

theorem path_names {x : ByteArray} (h : pathOk x = true) : names x = namesB x := by unfold names; rw [h]; rfl
theorem no_path {x : ByteArray} (h : pathOk x = false) : names x = [] := by unfold names; rw [h]; rfl
theorem path_size {x : ByteArray} (h : pathOk x = true) : ¬ x.toList = ([] : List UInt8) := by
  intro h0
  have e := names_nil x h0
  rw [path_names h] at e
  exact namesB_ne x e
theorem joinB_nil : joinB [] = (⟨#[]⟩ : ByteArray) := rfl
/-- What is over a path of several names. -/
theorem up {x : ByteArray} (h : pathOk x = true) (h2 : 2 ≤ (namesB x).length) : names (parent x) = (namesB x).take ((namesB x).length - 1) ∧ pathOk (parent x) = true := by
  have e : parent x = joinB ((namesB x).take ((namesB x).length - 1)) := by unfold parent; rw [path_names h]
  have hn : namesB (parent x) = (namesB x).take ((namesB x).length - 1) := by
    rw [e]
    exact namesB_join _ (by intro e; have := congrArg List.length e; rw [List.length_take, List.length_nil] at this; omega) (fun p hp => namesB_mem x p (List.mem_of_mem_take hp))
  have hp : pathOk (parent x) = true := by
    rw [pathOk_eq, hn]
    rw [pathOk_eq] at h
    simp only [Bool.and_eq_true, decide_eq_true_eq] at h ⊢
    refine ⟨List.all_eq_true.2 (fun y hy => List.all_eq_true.1 h.1 y (List.mem_of_mem_take hy)), ?_⟩
    rw [List.length_take]; omega
  exact ⟨by rw [path_names hp, hn], hp⟩
theorem up_none {x : ByteArray} (h : pathOk x = true) (h1 : (namesB x).length = 1) : parent x = (⟨#[]⟩ : ByteArray) := by
  unfold parent
  rw [path_names h, h1]
  rfl
theorem pre_refl (a : List ByteArray) : pre a a = true := by
  unfold pre; rw [List.isPrefixOf_iff_prefix]; exact List.prefix_rfl
theorem pre_take (a : List ByteArray) (n : Nat) : pre (a.take n) a = true := by
  unfold pre; rw [List.isPrefixOf_iff_prefix, List.map_take]; exact List.take_prefix _ _
theorem pre_nil (a : List ByteArray) : pre [] a = true := by simp [pre]
theorem pre_trans {a b c : List ByteArray} (h : pre a b = true) (h' : pre b c = true) : pre a c = true := by
  unfold pre at *; rw [List.isPrefixOf_iff_prefix] at *; exact h.trans h'
theorem pre_len {a b : List ByteArray} (h : pre a b = true) : a.length ≤ b.length := by
  unfold pre at h; rw [List.isPrefixOf_iff_prefix] at h
  have := h.length_le
  simpa using this
theorem pre_anti {a b : List ByteArray} (h : pre a b = true) (h' : pre b a = true) : a = b := by
  have h1 := pre_len h
  have h2 := pre_len h'
  unfold pre at h
  rw [List.isPrefixOf_iff_prefix] at h
  exact map_inj (h.eq_of_length (by simp; omega))
theorem namesB_pos (x : ByteArray) : 1 ≤ (namesB x).length := List.length_pos_iff.2 (namesB_ne x)
theorem und_refl {x : ByteArray} (h : pathOk x = true) : und x x = true := by
  unfold und; rw [h, pre_refl]; simp
theorem parent_empty {x : ByteArray} (h : pathOk x = true) : (parent x).toList = ([] : List UInt8) ↔ (namesB x).length = 1 := by
  constructor
  · intro h0
    by_cases h2 : 2 ≤ (namesB x).length
    · obtain ⟨_, hp⟩ := up h h2
      exact absurd h0 (path_size hp)
    · have := namesB_pos x; omega
  · intro h1
    rw [up_none h h1]; exact (toList_nil _).2 rfl
theorem und_up {x y : ByteArray} (h : pathOk x = true) (hy : pathOk y = true) (hp : pre (names x) (names y) = true) : und (parent x) y = true := by
  unfold und
  rw [hy]
  by_cases h2 : 2 ≤ (namesB x).length
  · obtain ⟨e, hpp⟩ := up h h2
    rw [path_names h] at hp
    rw [hpp, e, pre_trans (pre_take _ _) hp]
    simp
  · have h0 := (parent_empty h).2 (by have := namesB_pos x; omega)
    rw [decide_eq_true h0, names_nil _ h0, pre_nil]
    rfl
theorem join_up {x : ByteArray} (h : pathOk x = true) : joinP (parent x) (base (names x)) = x := by
  have hpos := namesB_pos x
  have hlast : base (names x) = (namesB x)[(namesB x).length - 1]'(by omega) := by
    unfold base
    rw [path_names h, if_neg (by omega)]
    have : ((namesB x).length : Int) - 1 = (((namesB x).length - 1 : Nat) : Int) := by omega
    rw [this, rdB _ _ (by omega)]
  have hok : Name.nameOk (base (names x)) = true := by
    rw [hlast]
    rw [pathOk_eq] at h
    simp only [Bool.and_eq_true, decide_eq_true_eq] at h
    exact List.all_eq_true.1 h.1 _ (List.getElem_mem _)
  have htk := take_join (namesB x) ((namesB x).length - 1) (by omega)
  rw [show (namesB x).length - 1 + 1 = (namesB x).length by omega, List.take_length, joinB_names] at htk
  have hout : out (parent x) (base (names x)) = x := by
    unfold out
    by_cases h1 : (namesB x).length = 1
    · rw [if_pos ((parent_empty h).2 h1), hlast]
      rw [if_pos (by omega)] at htk
      exact htk.symm
    · rw [if_neg (fun h0 => h1 ((parent_empty h).1 h0)), hlast]
      rw [if_neg (by omega)] at htk
      have : parent x = joinB ((namesB x).take ((namesB x).length - 1)) := by unfold parent; rw [path_names h]
      rw [this]
      exact htk.symm
  unfold joinP
  rw [hout, hok, h]
  by_cases h1 : (namesB x).length = 1
  · rw [decide_eq_true ((parent_empty h).2 h1)]; rfl
  · rw [(up h (by omega)).2]; simp
theorem not_down {x : ByteArray} (h : pathOk x = true) (h2 : 2 ≤ (namesB x).length) : und x (parent x) = false := by
  obtain ⟨e, hp⟩ := up h h2
  have : pre (names x) (names (parent x)) = false := by
    cases hq : pre (names x) (names (parent x)) with
    | false => rfl
    | true =>
      have := pre_len hq
      rw [e, path_names h, List.length_take] at this
      omega
  unfold und
  rw [this]; simp
/-! ### the law -/
theorem last_ (p q : ByteArray) (hp : p.size ≤ 1000) (hq : q.size ≤ 1000) : Ev (fun k => (impl_Under.f k p q).bind fun t351 => (if t351 = true then ((impl_Under.f k q p).bind fun t352 => (if ((!t352) == (p.toList != q.toList)) = true then (if p.toList = ([] : List UInt8) then (some true) else ((impl_ParentOf.f k p).bind fun t353 => ((impl_Under.f k t353 q).bind fun t354 => (some t354)))) else (some false))) else (some true))) true := by
  refine Ev.bind (impl_und p q (by omega)) ?_
  cases hu : und p q with
  | false => simp only [Bool.false_eq_true, if_false]; exact Ev.now _
  | true =>
    simp only [if_true]
    refine Ev.bind (impl_und q p (by omega)) ?_
    have hu' := hu
    unfold und at hu'
    simp only [Bool.and_eq_true] at hu'
    obtain ⟨ha, hqp, hpre⟩ := hu'
    have hsame : ((!und q p) == (p.toList != q.toList)) = true := by
      by_cases h0 : p.toList = ([] : List UInt8)
      · have hpn : pathOk p = false := by
          cases h : pathOk p with
          | false => rfl
          | true => exact absurd h0 (path_size h)
        have h1 : und q p = false := by unfold und; rw [hpn]; simp
        have h2 : (p.toList != q.toList) = true := by
          rw [h0]
          have := path_size hqp
          simp only [bne_iff_ne, ne_eq]
          exact fun e => this e.symm
        rw [h1, h2]; rfl
      · have hpp : pathOk p = true := by
          rcases Bool.or_eq_true_iff.1 ha with h | h
          · exact absurd (of_decide_eq_true h) h0
          · exact h
        by_cases hpq : p = q
        · subst hpq
          rw [hu]; simp
        · have h1 : und q p = false := by
            cases hd : und q p with
            | false => rfl
            | true =>
              unfold und at hd
              simp only [Bool.and_eq_true] at hd
              have := pre_anti hpre hd.2.2
              rw [path_names hpp, path_names hqp] at this
              exact absurd (namesB_inj this) hpq
          have h2 : (p.toList != q.toList) = true := by
            simp only [bne_iff_ne, ne_eq]
            exact fun e => hpq (toList_inj e)
          rw [h1, h2]; rfl
    simp only [hsame, if_true]
    by_cases h0 : p.toList = ([] : List UInt8)
    · simp only [if_pos h0]; exact Ev.now _
    · simp only [if_neg h0]
      have hpp : pathOk p = true := by
        rcases Bool.or_eq_true_iff.1 ha with h | h
        · exact absurd (of_decide_eq_true h) h0
        · exact h
      refine Ev.bind (impl_parent p) ?_
      have hsz : (parent p).size ≤ 1048576 := by
        have := joinB_size ((names p).take ((names p).length - 1)) (fun x hx => names_sizes p x (List.mem_of_mem_take hx))
        have h8 := names_length p
        rw [List.length_take] at this
        unfold parent; omega
      refine Ev.bind (impl_und (parent p) q hsz) ?_
      rw [und_up hpp hqp hpre]
      exact Ev.now _
theorem parent_size (p : ByteArray) : (parent p).size ≤ 1048576 := by
  have := joinB_size ((names p).take ((names p).length - 1)) (fun x hx => names_sizes p x (List.mem_of_mem_take hx))
  have h8 := names_length p
  rw [List.length_take] at this
  unfold parent; omega
theorem round (p q : ByteArray) (l : List ByteArray) (hl : l.length ≤ 1000) (i : Nat) (hi : i < l.length) (hz : l[i].size ≤ 1000)
    (next : Ev (fun k => laws_FnPaths.l0 k p q l (l.length : Int) ((i + 1 : Nat) : Int)) true) : Ev (fun k => laws_FnPaths.l0 k p q l (l.length : Int) i) true := by
  have hS : ∀ (f : Nat → Option Bool), (∀ k, laws_FnPaths.l0 (k + 1) p q l (l.length : Int) i = f k) → Ev f true → Ev (fun k => laws_FnPaths.l0 k p q l (l.length : Int) i) true := fun f h e => Ev.step h e
  refine hS _ (fun k => by
    simp only [laws_FnPaths.l0]
    rw [if_pos (show (i : Int) < (l.length : Int) by omega), if_pos (show (0 : Int) ≤ (i : Int) by omega), if_pos (show (i : Int) < (l.length : Int) by omega), rdB l i hi, w64s i (by omega)]) ?_
  generalize l[i] = x at hz
  refine Ev.bind (spec_path x) ?_
  cases h : pathOk x with
  | false =>
    simp only [Bool.false_eq_true, if_false]
    have hn := no_path h
    refine Ev.bind (impl_deep x) ?_
    rw [hn]
    simp only [List.length_nil, if_pos (show ((0 : Nat) : Int) = 0 from rfl)]
    refine Ev.bind (impl_names x) ?_
    rw [hn]
    simp only [List.length_nil, if_pos (show ((0 : Nat) : Int) = 0 from rfl)]
    refine Ev.bind (impl_parent x) ?_
    have : (parent x).toList = ([] : List UInt8) := by
      unfold parent; rw [hn]; exact (toList_nil _).2 rfl
    simp only [if_pos this]
    exact next
  | true =>
    simp only [if_true]
    have hpos := namesB_pos x
    have hn := path_names h
    refine Ev.bind (impl_parent x) (Ev.bind (impl_base x) ?_)
    have hbz : (base (names x)).size ≤ 1048576 := by
      have hlast : base (names x) = (namesB x)[(namesB x).length - 1]'(by omega) := by
        unfold base
        rw [hn, if_neg (by omega)]
        have : ((namesB x).length : Int) - 1 = (((namesB x).length - 1 : Nat) : Int) := by omega
        rw [this, rdB _ _ (by omega)]
      rw [hlast]
      have := names_sizes x _ (by rw [hn]; exact List.getElem_mem (show (namesB x).length - 1 < (namesB x).length by omega))
      omega
    refine Ev.bind (impl_join (parent x) (base (names x)) (parent_size x) hbz) ?_
    rw [join_up h]
    simp only [if_true]
    refine Ev.bind (impl_und x x (by omega)) ?_
    rw [und_refl h]
    simp only [if_true]
    refine Ev.bind (impl_parent x) (Ev.bind (impl_und (parent x) x (parent_size x)) ?_)
    rw [und_up h h (pre_refl _)]
    simp only [if_true]
    refine Ev.bind (impl_deep x) (Ev.bind (impl_names x) ?_)
    simp only [if_true]
    refine Ev.bind (impl_deep x) ?_
    rw [decide_eq_false (show ¬ ((names x).length : Int) < 1 by rw [hn]; omega)]
    refine Ev.step (f := fun k => (impl_ParentOf.f k x).bind fun t345 => (if t345.toList = ([] : List UInt8) then (laws_FnPaths.l0 k p q l (l.length : Int) ((i + 1 : Nat) : Int)) else ((impl_ParentOf.f k x).bind fun t346 => ((impl_Under.f k x t346).bind fun t347 => (if t347 = true then (some false) else ((impl_ParentOf.f k x).bind fun t348 => ((impl_DeepOf.f k t348).bind fun t349 => ((impl_DeepOf.f k x).bind fun t350 => (if t349 = (wrap64 (t350 - 1)) then (laws_FnPaths.l0 k p q l (l.length : Int) ((i + 1 : Nat) : Int)) else (some false)))))))))) (fun k => by
      simp only [laws_FnPaths.j1, Bool.false_eq_true, if_false]
      rw [w64s i (by omega)]) ?_
    refine Ev.bind (impl_parent x) ?_
    by_cases h1 : (namesB x).length = 1
    · simp only [if_pos ((parent_empty h).2 h1)]
      exact next
    · have h2 : 2 ≤ (namesB x).length := by omega
      obtain ⟨e, hp⟩ := up h h2
      simp only [if_neg (show ¬ (parent x).toList = ([] : List UInt8) from fun h0 => h1 ((parent_empty h).1 h0))]
      refine Ev.bind (impl_parent x) (Ev.bind (impl_und x (parent x) (by omega)) ?_)
      rw [not_down h h2]
      simp only [Bool.false_eq_true, if_false]
      refine Ev.bind (impl_parent x) (Ev.bind (impl_deep (parent x)) (Ev.bind (impl_deep x) ?_))
      rw [e, hn, List.length_take]
      have h8 := names_length x
      rw [hn] at h8
      have hw : ((min ((namesB x).length - 1) (namesB x).length : Nat) : Int) = wrap64 (((namesB x).length : Int) - 1) := by rw [w64 (by omega) (by omega)]; omega
      simp only [if_pos hw]
      exact next
theorem pure_ (l : List Int) : Ev (fun k => laws_FnPaths.f k l) true := by
  unfold laws_FnPaths.f laws_big.f
  simp only [Option.bind_some, decide_eq_true_eq]
  by_cases hb : (l.length : Int) > 1048576
  · simp only [if_pos hb]; exact Ev.now _
  simp only [if_neg hb]
  obtain ⟨p, q, hd, hp, hq⟩ := DrawUnder.draw_some l (by omega)
  refine Ev.bind hd ?_
  have h2 : Ev (fun k => laws_FnPaths.l0 k p q [p, q] (([p, q] : List ByteArray).length : Int) ((2 : Nat) : Int)) true := by
    have hL := last_ p q hp hq
    refine Ev.step (fun k => ?_) hL
    simp only [laws_FnPaths.l0]
    rw [if_neg (by simp)]
  have h1 := round p q [p, q] (by simp) 1 (by simp) hq h2
  exact round p q [p, q] (by simp) 0 (by simp) hp h1
theorem walk {P : Prop} {H : Type} {enc : TypeId × Value → H} (W : World) (_ : P) (hsh : W.ShapedOpen Tryd.prog) (ad : Option Addr) (len cap : Nat) {fuel : Nat} {x : DataW H × List MemPlace} (f : DataW.trod enc Tryd.prog W 0 (fun _ => true) true fuel 44 [.slice ad len cap] = some x) :
    Calls Tryd.prog 12 #[.slice ad len cap] W fun e w' => e = .returned (.bool true) ∧ Below W.heap.size W w' := by
  obtain ⟨l, ⟨A, c, hc, hl, hr⟩, _⟩ := Opens.op_slice (0 : Int) Tryd.underlying44 (d := Kd.int .u8) (by kernel_rfl) (Opens.op_int Tryd.underlying5) W _ _ _ _ _ f
  obtain ⟨rfl, rfl, rfl⟩ : ad = A ∧ len = l.length ∧ cap = c := by simpa using hc
  obtain ⟨k, hk⟩ := pure_ l
  exact laws_FnPaths.calls k ad cap l true W (Tab.of_shaped hsh) hr hl (hk k (Nat.le_refl k))

end Go.Proofs.YtnfihjebbhjgjaaDoor.WalkFnPaths
