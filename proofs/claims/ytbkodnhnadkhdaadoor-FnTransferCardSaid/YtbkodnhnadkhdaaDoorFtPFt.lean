/- What a transfer hands over: Patch makes the got text of it; literals make the text itself and hold its bytes; the tokens hold no more bytes than the text. Condition: at most 20000 bytes each. -/
import Derived.Test.YtbkodnhnadkhdaaDoorPFtx0
import Derived.Test.YtbkodnhnadkhdaaDoorPFtx4
import Derived.Test.YtbkodnhnadkhdaaDoorPFtx5
import Derived.Test.YtbkodnhnadkhdaaDoorPFtx6
import Derived.Test.YtbkodnhnadkhdaaDoorPFtx7
import Derived.Test.YtbkodnhnadkhdaaDoorPFtx9
import Derived.Test.YtbkodnhnadkhdaaDoorTrPFt
import Derived.Test.YtbkodnhnadkhdaaDoorWalkFnExactLiteralBytesFt
namespace Go.Proofs.YtbkodnhnadkhdaaDoor.FtP
open Go Go.RowKit Go.Proofs.YtbkodnhnadkhdaaDoor.PFt Go.Proofs.YtbkodnhnadkhdaaDoorW.PrintWords Go.Proofs.YtbkodnhnadkhdaaDoorW.PrintMore Go.Proofs.YtbkodnhnadkhdaaDoor.Arith Go.Proofs.YtbkodnhnadkhdaaDoor.Lib
set_option linter.unusedVariables false
set_option linter.unusedSimpArgs false
theorem size_ev (n : Int) (d : Nat) : ∀ s : Nat, s ≤ 256 → s % 8 = 0 → 256 ≤ s + 8 * d → ∃ r : Nat, (s ≤ r ∧ r ≤ 256) ∧ Ev (fun k => impl_BlockSize.l0 k n s) (r : Int) := by
  have hend : ∀ s : Nat, s ≤ 256 → ¬ (s : Int) < 256 → ∃ r : Nat, (s ≤ r ∧ r ≤ 256) ∧ Ev (fun k => impl_BlockSize.l0 k n s) (r : Int) := fun s h1 hs => by
    refine ⟨s, ⟨Nat.le_refl _, h1⟩, ev_at fun k => ?_⟩
    simp only [impl_BlockSize.l0]; rw [if_neg hs]
  induction d with
  | zero => intro s h1 h2 h3; exact hend s h1 (by omega)
  | succ d ih =>
    intro s h1 h2 h3
    have hw : wrap64 ((s : Int) + 8) = ((s + 8 : Nat) : Int) := by rw [w64 (by omega) (by omega)]; omega
    by_cases hs : (s : Int) < 256
    · by_cases hn : wrap64 ((s : Int) * s) < n
      · obtain ⟨r, hr, hi⟩ := ih (s + 8) (by omega) (by omega) (by omega)
        refine ⟨r, ⟨by omega, hr.2⟩, Ev.step (fun k => ?_) hi⟩
        simp only [impl_BlockSize.l0]; rw [if_pos hs, if_pos hn, hw]
      · refine ⟨s, ⟨Nat.le_refl _, h1⟩, ev_at fun k => ?_⟩
        simp only [impl_BlockSize.l0]; rw [if_pos hs, if_neg hn]
    · exact hend s h1 hs
theorem block_ev (n : Int) : ∃ r : Nat, (8 ≤ r ∧ r ≤ 256) ∧ Ev (fun k => impl_BlockSize.f k n) (r : Int) := size_ev n 31 8 (by omega) (by omega) (by omega)
/-- The bytes that tokens hold. -/
def lb : List S94 → Nat
  | [] => 0
  | x :: l => x.f1.size + lb l
theorem lb_app (l m : List S94) : lb (l ++ m) = lb l + lb m := by
  induction l with
  | nil => simp [lb]
  | cons x l ih => simp only [List.cons_append, lb, ih]; omega
theorem set_snoc (m : List S94) (y x : S94) : impl_delta.set (m ++ [y]) x = m ++ [x] := by
  unfold impl_delta.set
  rw [List.length_append, List.length_singleton, Nat.add_sub_cancel]
  simp
theorem step_lb (sz rs : Int) (wk : List Int) (st : List ByteArray) (sd : Int) (s : ByteArray) (A B : List Int) (i : Int) (l : List S94) (h0 : -9223372036854775808 ≤ i) (h1 : i < (s.size : Int)) (hs : s.size ≤ 20000) : lb (impl_delta.step sz rs wk st sd s A B i l).2 ≤ lb l + 1 ∧ -9223372036854775808 ≤ (impl_delta.step sz rs wk st sd s A B i l).1 := by
  have hx : (s.extract i.toNat (wrap64 (i + 1)).toNat).size ≤ 1 := by
    rw [w64 (x := i + 1) (by omega) (by omega), ByteArray.size_extract]; omega
  have hr : ∀ z : Int, -9223372036854775808 ≤ wrap64 z := fun z => (w64_range z).1
  have hset : ∀ x : S94, l ≠ [] → x.f1.size ≤ (impl_delta.last l).f1.size + 1 → lb (impl_delta.set l x) ≤ lb l + 1 := fun x hl hz => by
    rcases List.eq_nil_or_concat l with h | ⟨m, y, rfl⟩
    · exact absurd h hl
    · rw [List.concat_eq_append] at hz ⊢
      rw [impl_delta.last_snoc] at hz
      rw [set_snoc, lb_app, lb_app]
      simp only [lb]
      omega
  simp only [impl_delta.step]
  split
  · rename_i h
    exact ⟨hset _ h.1 (by show (impl_delta.last l).f1.size ≤ _; omega), hr _⟩
  · split
    · refine ⟨?_, hr _⟩
      rw [lb_app]
      simp only [lb]
      show lb l + (0 + 0) ≤ _
      omega
    · split
      · rename_i h
        exact ⟨hset _ h.1 (by show ((impl_delta.last l).f1 ++ _).size ≤ _; rw [ByteArray.size_append]; omega), hr _⟩
      · refine ⟨?_, hr _⟩
        rw [lb_app]
        simp only [lb]
        omega
theorem run_lb (sz rs : Int) (wk : List Int) (st : List ByteArray) (sd : Int) (s : ByteArray) (A B : List Int) (hs : s.size ≤ 20000) (d : Nat) : ∀ (i : Int) (l : List S94), -9223372036854775808 ≤ i → lb (impl_delta.run sz rs wk st sd s A B d i l) ≤ lb l + d := by
  induction d with
  | zero => intro i l _; exact Nat.le_refl _
  | succ d ih =>
    intro i l h0
    simp only [impl_delta.run]
    split
    · rename_i h1
      have h2 := step_lb sz rs wk st sd s A B i l h0 h1 hs
      have h3 := ih (impl_delta.step sz rs wk st sd s A B i l).1 (impl_delta.step sz rs wk st sd s A B i l).2 h2.2
      omega
    · omega
theorem sum_lb (l : List S94) : ∀ a : Int, 0 ≤ a → a + lb l < 9223372036854775807 → WalkFnExactLiteralBytes.sum a l = a + lb l := by
  induction l with
  | nil => intro a _ _; simp [WalkFnExactLiteralBytes.sum, lb]
  | cons x l ih =>
    intro a h0 h1
    simp only [lb] at h1
    have e : WalkFnExactLiteralBytes.sum a (x :: l) = WalkFnExactLiteralBytes.sum (wrap64 (a + (x.f1.size : Int))) l := rfl
    rw [e, w64 (x := a + (x.f1.size : Int)) (by omega) (by omega), ih _ (by omega) (by omega)]
    simp only [lb]; omega
theorem val_le (l : List S94) (n : Nat) (h : lb l ≤ n) (hn : n ≤ 20000) : WalkFnExactLiteralBytes.val l ≤ (n : Int) := by
  unfold WalkFnExactLiteralBytes.val
  split
  · omega
  · split
    · rw [sum_lb l 0 (by omega) (by omega)]; omega
    · omega
theorem lit_ok (b : ByteArray) (h1 : 1 ≤ b.size) (h2 : b.size ≤ 100) : Rec.ok (⟨0, b, 0, 0⟩ : S94) = true := by
  have h := Rec.tok_ok (⟨0, b, 0, 0⟩ : S94)
  have e : impl_TokenOk.f 0 b 0 0 = some true := by
    unfold impl_TokenOk.f impl_within.f
    rw [if_pos rfl, if_pos (by omega)]
    simp
    omega
  exact (Option.some.inj (h.symm.trans e))
theorem lits_lb (bs : List ByteArray) : lb (Blocks.lits bs) = (bs.flatMap bytesOf).length := by
  induction bs with
  | nil => rfl
  | cons b bs ih =>
    have e : Blocks.lits (b :: bs) = (⟨0, b, 0, 0⟩ : S94) :: Blocks.lits bs := rfl
    rw [e, List.flatMap_cons, List.length_append, bytesOf_length]
    simp only [lb, ih]
theorem cut_bytes (n : Nat) (hn : 1 ≤ n) (d : Nat) : ∀ s : ByteArray, s.size ≤ d → (Blocks.cut n d s).flatMap bytesOf = bytesOf s := by
  have h00 : ∀ s : ByteArray, s.size = 0 → bytesOf s = [] := fun s h => List.eq_nil_of_length_eq_zero (by rw [bytesOf_length]; exact h)
  induction d with
  | zero => intro s hs; rw [h00 s (by omega)]; rfl
  | succ d ih =>
    intro s hs
    simp only [Blocks.cut]
    by_cases h0 : s.size = 0
    · rw [if_pos h0, h00 s h0]; rfl
    rw [if_neg h0]
    by_cases h1 : s.size ≤ n
    · rw [if_pos h1]; simp
    · rw [if_neg h1, List.flatMap_cons, ih _ (by rw [ByteArray.size_extract]; omega), Patch.tail_bytes, extract_bytesOf, List.drop_zero, List.take_append_drop]
theorem lits_all (bs : List ByteArray) (h : ∀ b ∈ bs, 1 ≤ b.size ∧ b.size ≤ 100) : (Blocks.lits bs).all Rec.ok = true := by
  rw [List.all_eq_true]
  intro x hx
  obtain ⟨b, hb, rfl⟩ := List.mem_map.1 hx
  exact lit_ok b (h b hb).1 (h b hb).2
theorem run_lits (s : ByteArray) (n nb : Nat) (bs : List ByteArray) (h : ∀ b ∈ bs, 1 ≤ b.size ∧ b.size ≤ 100) : ∀ acc : List Int, acc.length + (bs.flatMap bytesOf).length ≤ 20000 → Patch.run s n nb acc (Blocks.lits bs) = (strOfNums (acc ++ bs.flatMap bytesOf), true) := by
  induction bs with
  | nil => intro acc _; simp [Blocks.lits, Patch.run]
  | cons b bs ih =>
    intro acc hl
    rw [List.flatMap_cons, List.length_append] at hl
    have hb := h b List.mem_cons_self
    have hst : Patch.step s n nb acc (⟨0, b, 0, 0⟩ : S94) = some (acc ++ bytesOf b) := by
      unfold Patch.step
      rw [if_pos (lit_ok b hb.1 hb.2), if_neg (show ¬ (0 : Int) = 1 by decide), if_neg (show ¬ ((acc ++ bytesOf b).length : Int) > 20000 by rw [List.length_append]; omega)]
    have e : Blocks.lits (b :: bs) = (⟨0, b, 0, 0⟩ : S94) :: Blocks.lits bs := rfl
    rw [e, Patch.run, hst]
    have := ih (fun x hx => h x (List.mem_cons_of_mem _ hx)) (acc ++ bytesOf b) (by rw [List.length_append]; omega)
    rw [List.flatMap_cons, ← List.append_assoc]
    exact this
theorem only_val (old data : ByteArray) (n : Nat) (h1 : 1 ≤ n) (h2 : n ≤ 256) (ho : old.size ≤ 20000) (hd : data.size ≤ 20000) : WalkFnExactPatch.val old n (Blocks.only data) = (data, true) := by
  have hl := Blocks.only_length data
  unfold WalkFnExactPatch.val
  rw [if_pos (by omega), if_neg (by omega), if_neg (by omega)]
  unfold Blocks.only
  rw [if_neg (by omega)]
  have hc := cut_bytes 100 (by omega) data.size data (Nat.le_refl _)
  rw [run_lits _ _ _ _ (Blocks.cut_sizes 100 (by omega) data.size data (Nat.le_refl _)) [] (by rw [hc, bytesOf_length]; simp; omega), hc, List.nil_append, strOfNums_bytesOf]
theorem only_bytes (data : ByteArray) (hd : data.size ≤ 20000) : WalkFnExactLiteralBytes.val (Blocks.only data) = (data.size : Int) := by
  have hl := Blocks.only_length data
  have e0 : Blocks.only data = Blocks.lits (Blocks.cut 100 data.size data) := by unfold Blocks.only; rw [if_neg (by omega)]
  unfold WalkFnExactLiteralBytes.val
  rw [if_neg (by omega), e0, if_pos (lits_all _ (Blocks.cut_sizes 100 (by omega) data.size data (Nat.le_refl _)))]
  have e : lb (Blocks.lits (Blocks.cut 100 data.size data)) = data.size := by
    rw [lits_lb, cut_bytes 100 (by omega) data.size data (Nat.le_refl _), bytesOf_length]
  rw [sum_lb _ 0 (by omega) (by omega), e]; omega
theorem same_loop (l : List S94) (hl : l.length < 9223372036854775807) (d : Nat) : ∀ i : Nat, i + d = l.length → Ev (fun k => laws_sameTokens.l0 k l l i) true := by
  induction d with
  | zero =>
    intro i h
    refine ev_at fun k => ?_
    simp only [laws_sameTokens.l0]
    rw [if_neg (by omega)]
  | succ d ih =>
    intro i h
    refine Ev.step (f := fun k => laws_sameTokens.l0 k l l ((i + 1 : Nat) : Int)) (fun k => ?_) (ih (i + 1) (by omega))
    simp only [laws_sameTokens.l0]
    rw [if_pos (by omega), if_pos (by omega), if_pos (by omega), w64s i (by omega)]
    simp
theorem same_ev (l : List S94) (hl : l.length < 9223372036854775807) : Ev (fun k => laws_sameTokens.f k l l) true := by
  unfold laws_sameTokens.f
  simp only [if_true]
  exact same_loop l hl l.length 0 (by omega)
/-- All that the law asks of one transfer. -/
theorem all (old data : ByteArray) (sd : Int) (hsd : 0 ≤ sd ∧ sd < 4294967296) (ho : old.size ≤ 20000) (hd : data.size ≤ 20000) :
    ∃ (size x : Int) (got : ByteArray) (R : List S94) (again : Bool), Ev (fun k => impl_Transfer.f k old data sd) (got, R, again) ∧ Ev (fun k => impl_BlockSize.f k old.size) size ∧ Ev (fun k => impl_Patch.f k old size R) (got, true) ∧ Ev (fun k => impl_OnlyLiterals.f k data) (Blocks.only data) ∧ Ev (fun k => impl_Patch.f k old size (Blocks.only data)) (data, true) ∧
      Ev (fun k => impl_LiteralBytes.f k (Blocks.only data)) (data.size : Int) ∧ Ev (fun k => impl_LiteralBytes.f k R) x ∧ x ≤ (data.size : Int) ∧ (again = true → Ev (fun k => laws_sameTokens.f k R (Blocks.only data)) true) ∧
      (got = data ∨ (got.toList == data.toList) = false ∧ again = false ∧ Str.sumOf got = Str.sumOf data) := by
  obtain ⟨n, ⟨n1, n2⟩, hB⟩ := block_ev old.size
  obtain ⟨hb, hk⟩ := TrP.sig_ok old n sd n1 n2 ho
  have e : SgP.sigOf old n sd = ((n : Int), (old.size : Int) % n, SgP.wk (SgP.cutOf old n), SgP.sh sd (SgP.cutOf old n), true) := by
    unfold SgP.sigOf; rw [if_neg (by rw [hb]; simp)]
  have hsi := SgP.impl_sig old n sd (by omega) (by omega)
  rw [e] at hsi
  obtain ⟨f1, f2, f3, f4, f5⟩ := DlL.facts hk
  have hdi := DlL.impl_delta_ev n ((old.size : Int) % n) (SgP.wk (SgP.cutOf old n)) (SgP.sh sd (SgP.cutOf old n)) sd data f1 f2 f3 f4 hsd hd (TrP.wk_range _)
  obtain ⟨L, hL⟩ : ∃ L, L = DlL.delta n ((old.size : Int) % n) (SgP.wk (SgP.cutOf old n)) (SgP.sh sd (SgP.cutOf old n)) sd data := ⟨_, rfl⟩
  have hLb : lb L ≤ data.size := by
    rw [hL]
    unfold DlL.delta
    have := run_lb n ((old.size : Int) % n) (SgP.wk (SgP.cutOf old n)) (SgP.sh sd (SgP.cutOf old n)) sd data (DlP.sums data (n : Int).toNat) (DlP.sums data ((old.size : Int) % n).toNat) hd data.size 0 [] (by omega)
    simpa [lb] using this
  have hLn : L.length ≤ 20000 := by rw [hL]; exact DlL.delta_len _ _ _ _ _ _ hd
  rw [← hL] at hdi
  clear hL
  have hP := WalkFnExactPatch.impl_ev old n L
  have hz := TrP.val_size old n L
  obtain ⟨v, hv⟩ : ∃ v, v = WalkFnExactPatch.val old n L := ⟨_, rfl⟩
  rw [← hv] at hP hz
  obtain ⟨out, ok⟩ := v
  have hO := WalkFnExactPatch.impl_ev old n (Blocks.only data)
  rw [only_val old data n (by omega) n2 ho hd] at hO
  have hLl := WalkFnExactLiteralBytes.impl_ev L (by omega)
  have hl := Blocks.only_length data
  have hLo := WalkFnExactLiteralBytes.impl_ev (Blocks.only data) (by omega)
  rw [only_bytes data hd] at hLo
  obtain ⟨same, hs⟩ : ∃ same, same = (ok && decide (Str.sumOf out = Str.sumOf data)) := ⟨_, rfl⟩
  have hT := TrP.impl_ev old data sd n _ _ _ _ L out ok same ho hd hz hB hsi hdi hP hs
  cases same with
  | false =>
    simp only [Bool.false_eq_true, if_false, Bool.not_false] at hT
    exact ⟨n, data.size, data, Blocks.only data, true, hT, hB, hO, Blocks.only_impl data, hO, hLo, hLo, Int.le_refl _, fun _ => same_ev _ (by omega), .inl rfl⟩
  | true =>
    simp only [if_true, Bool.not_true] at hT
    obtain ⟨rfl, he⟩ : ok = true ∧ Str.sumOf out = Str.sumOf data := by
      have := hs.symm
      simp only [Bool.and_eq_true, decide_eq_true_eq] at this
      exact this
    refine ⟨n, WalkFnExactLiteralBytes.val L, out, L, false, hT, hB, hP, Blocks.only_impl data, hO, hLo, hLl, val_le L data.size hLb hd, (fun h => by cases h), ?_⟩
    by_cases hg : out = data
    · exact .inl hg
    · exact .inr ⟨by rw [beq_eq_false_iff_ne]; exact fun h => hg (toList_inj h), rfl, he⟩
end Go.Proofs.YtbkodnhnadkhdaaDoor.FtP
