/- The reference's ShortSum: the first bytes of the sum of a seed and a text. Condition: a seed is a word; at most 2^20 bytes. -/
import Derived.Test.YtbkodnhnadkhdaaDoorStrW
namespace Go.Proofs.YtbkodnhnadkhdaaDoor.Str
open Go Go.RowKit Go.Proofs.YtbkodnhnadkhdaaDoor.PM5 Go.Proofs.YtbkodnhnadkhdaaDoorW.PrintWords Go.Proofs.YtbkodnhnadkhdaaDoorW.PrintLast Go.Proofs.YtbkodnhnadkhdaaDoorW.PrintMore Go.Proofs.YtbkodnhnadkhdaaDoor.Arith Go.Proofs.YtbkodnhnadkhdaaDoor.Lib Go.Proofs.YtbkodnhnadkhdaaDoor.Word Go.Proofs.YtbkodnhnadkhdaaDoor.Pad Go.Proofs.YtbkodnhnadkhdaaDoor.Mix
set_option linter.unusedVariables false
set_option linter.unusedSimpArgs false
def fits16 (n : Int) (s : ByteArray) : Bool := decide ((1 ≤ n ∧ n ≤ 16) ∧ s.size ≤ 19996)
def shortOf (a : Int) (s : ByteArray) (n : Int) : ByteArray := if fits16 n s = true then strOfNums ((md5 (seeded a s)).take n.toNat) else ⟨#[]⟩
set_option maxHeartbeats 4000000 in
set_option maxRecDepth 100000 in
theorem inS (n : Int) (w : World) : Calls Tryd.prog 54 #[.int .i64 n, .int .i64 1, .int .i64 16] w fun e w' => e = .returned (.bool (decide (1 ≤ n ∧ n ≤ 16))) ∧ Below w.heap.size w w' := by
  by_cases h1 : 1 ≤ n
  · have h1b : decide (1 ≤ n) = true := decide_eq_true h1
    by_cases h2 : n ≤ 16
    · have h2b : decide (n ≤ 16) = true := decide_eq_true h2
      rw [decide_eq_true (show 1 ≤ n ∧ n ≤ 16 from ⟨h1, h2⟩)]
      go_enter Tryd.func54, Tryd.ntmps54
      go_wp2
      go_ret
      exact ⟨rfl, Below.refl _ _⟩
    · have h2b : decide (n ≤ 16) = false := decide_eq_false h2
      rw [decide_eq_false (show ¬ (1 ≤ n ∧ n ≤ 16) by omega)]
      go_enter Tryd.func54, Tryd.ntmps54
      go_wp2
      go_ret
      exact ⟨rfl, Below.refl _ _⟩
  · have h1b : decide (1 ≤ n) = false := decide_eq_false h1
    rw [decide_eq_false (show ¬ (1 ≤ n ∧ n ≤ 16) by omega)]
    go_enter Tryd.func54, Tryd.ntmps54
    go_wp2
    go_ret
    exact ⟨rfl, Below.refl _ _⟩
theorem hBx_ {w : World} {o : Obj} {g : Nat} (h : g < w.heap.size) : (w.alloc o).heap[g]? = w.heap[g]? := (below_alloc (Below.refl w.heap.size w) o).block g h
theorem one_text (w : World) (b : Int) : (convert 50 9 (.slice (some ⟨w.heap.size, 0, none⟩) 1 1)).run Tryd.prog (w.alloc (Obj.cells #[.int .u8 b] 5)) = .ok (.string (strOfNums [b])) (w.alloc (Obj.cells #[.int .u8 b] 5)) := by
  refine Kd.C_string (xs := [b]) Tryd.underlying50 Tryd.underlying5 Tryd.underlying9 ?_
  refine Kd.C_of_reads (readsInt_of.1 ⟨rfl, by simp, fun _ => ⟨_, rfl, fun j hj => ?_⟩⟩)
  have hj0 : j = 0 := by simp at hj; omega
  subst hj0
  have h := heap_alloc_new w (Obj.cells #[.int .u8 b] 5)
  rw [add_plain]
  simp only [World.cell?, Nat.add_zero]
  rw [h]
  rfl
theorem take_text (l : List Int) (i : Nat) (h : i < l.length) : strOfNums (l.take i) ++ strOfNums [l.getD i 0] = strOfNums (l.take (i + 1)) := by
  rw [← strOfNums_append, List.take_succ_eq_append_getElem h]
  simp [List.getD_eq_getElem?_getD, List.getElem?_eq_getElem h]
set_option maxHeartbeats 4000000 in
set_option maxRecDepth 100000 in
theorem shortS (a : Int) (ha : 0 ≤ a ∧ a < 4294967296) (s : ByteArray) (n : Int) (w : World) (hs : s.size ≤ 1048576) :
    Calls Tryd.prog 21 #[.int .u32 a, .string s, .int .i64 n] w fun e w' => e = .returned (.string (shortOf a s n)) ∧ Below w.heap.size w w' := by
  unfold shortOf fits16
  by_cases hn : 1 ≤ n ∧ n ≤ 16
  · have hnb : decide (1 ≤ n ∧ n ≤ 16) = true := decide_eq_true hn
    have hI := inS n
    rw [hnb] at hI
    by_cases hl : (19996 : Int) < (s.size : Int)
    · have h1 : decide ((19996 : Int) < (s.size : Int)) = true := decide_eq_true hl
      have h2 : decide (19996 < s.size) = true := decide_eq_true (by omega)
      rw [if_neg (by simp; omega)]
      go_enter Tryd.func21, Tryd.ntmps21
      go_wp2_with (go_at_call 54; refine (hI _).mono ?_; rintro e w2 ⟨rfl, hb2⟩)
      go_ret
      exact ⟨rfl, hb2⟩
    · have h1 : decide ((19996 : Int) < (s.size : Int)) = false := decide_eq_false hl
      have h2 : decide (19996 < s.size) = false := decide_eq_false (by omega)
      rw [if_pos (by simp; omega)]
      have hsm : sumOf (seeded a s) = md5 (seeded a s) := by unfold sumOf; rw [if_pos (by rw [seeded_size]; omega)]
      have hml := md5_length (seeded a s)
      have MO : ∀ w, Calls Tryd.prog 19 #[.int .u32 a, .string s] w fun e w' => e = .returned (b16 (md5 (seeded a s))) ∧ Below w.heap.size w w' := fun w => by rw [← hsm]; exact seedS a ha s w hs
      clear hsm
      generalize md5 (seeded a s) = xs at *
      obtain ⟨m, rfl⟩ : ∃ m : Nat, n = m := ⟨n.toNat, by omega⟩
      match xs, hml, MO with
      | [a0, a1, a2, a3, a4, a5, a6, a7, a8, a9, a10, a11, a12, a13, a14, a15], hml, MO =>
        replace MO : ∀ w, Calls Tryd.prog 19 #[.int .u32 a, .string s] w fun e w' => e = .returned (.agg #[.int .u8 a0, .int .u8 a1, .int .u8 a2, .int .u8 a3, .int .u8 a4, .int .u8 a5, .int .u8 a6, .int .u8 a7, .int .u8 a8, .int .u8 a9, .int .u8 a10, .int .u8 a11, .int .u8 a12, .int .u8 a13, .int .u8 a14, .int .u8 a15]) ∧ Below w.heap.size w w' := MO
        go_enter Tryd.func21, Tryd.ntmps21
        go_upto_region 4 with (first | (go_at_call 54; refine (hI _).mono ?_; rintro e w2 ⟨rfl, hb2⟩) | (go_at_call 19; refine (MO _).mono ?_; rintro e w3 ⟨rfl, hb3⟩))
        have hg : (w3.alloc (Obj.cells #[.int .u8 a0, .int .u8 a1, .int .u8 a2, .int .u8 a3, .int .u8 a4, .int .u8 a5, .int .u8 a6, .int .u8 a7, .int .u8 a8, .int .u8 a9, .int .u8 a10, .int .u8 a11, .int .u8 a12, .int .u8 a13, .int .u8 a14, .int .u8 a15] 28)).heap[w3.heap.size]? = some (.cells (arr .u8 [a0, a1, a2, a3, a4, a5, a6, a7, a8, a9, a10, a11, a12, a13, a14, a15]) 28 (0, 0)) := heap_alloc_new w3 _
        have hB : Below w.heap.size w (w3.alloc (Obj.cells #[.int .u8 a0, .int .u8 a1, .int .u8 a2, .int .u8 a3, .int .u8 a4, .int .u8 a5, .int .u8 a6, .int .u8 a7, .int .u8 a8, .int .u8 a9, .int .u8 a10, .int .u8 a11, .int .u8 a12, .int .u8 a13, .int .u8 a14, .int .u8 a15] 28)) := below_alloc (below_step hb2 hb3) _
        have hz : (w3.alloc (Obj.cells #[.int .u8 a0, .int .u8 a1, .int .u8 a2, .int .u8 a3, .int .u8 a4, .int .u8 a5, .int .u8 a6, .int .u8 a7, .int .u8 a8, .int .u8 a9, .int .u8 a10, .int .u8 a11, .int .u8 a12, .int .u8 a13, .int .u8 a14, .int .u8 a15] 28)).heap.size = w3.heap.size + 1 := by simp
        generalize w3.alloc (Obj.cells #[.int .u8 a0, .int .u8 a1, .int .u8 a2, .int .u8 a3, .int .u8 a4, .int .u8 a5, .int .u8 a6, .int .u8 a7, .int .u8 a8, .int .u8 a9, .int .u8 a10, .int .u8 a11, .int .u8 a12, .int .u8 a13, .int .u8 a14, .int .u8 a15] 28) = W4 at *
        generalize w3.heap.size = g3 at *
        clear MO hI hb2 hb3
        generalize hxs : [a0, a1, a2, a3, a4, a5, a6, a7, a8, a9, a10, a11, a12, a13, a14, a15] = xs at *
        have NXS := Aside0.mk hxs
        clear hxs
        go_wp2
        go_loopg [8, 9] m (fun kq v8 v9 w' => ∃ i : Nat, i + kq = m ∧ v8 = .string (strOfNums (xs.take i)) ∧ v9 = .int .i64 (i : Int) ∧ w'.heap[g3]? = some (.cells (arr .u8 xs) 28 (0, 0)) ∧ Below w.heap.size w w' ∧ g3 < w'.heap.size)
        case atStart => exact ⟨0, by omega, rfl, rfl, hg, hB, by omega⟩
        case round =>
          obtain ⟨i, hi, rfl, rfl, hgi, hBi, hzi⟩ := hrel
          clear hg hB hz
          by_cases hlt : (i : Int) < (m : Int)
          · have hlb : decide ((i : Int) < (m : Int)) = true := decide_eq_true hlt
            have i0 : (0 : Int) ≤ (i : Int) := by omega
            have i1 : (i : Int) < 16 := by omega
            obtain ⟨hci, _⟩ := cell16 xs i (by omega) hgi
            have z1 : (strOfNums (xs.take i)).size = i := by rw [strOfNums_size, List.length_take]; omega
            have hT := take_text xs i (by omega)
            generalize xs.getD i 0 = b at hci hT
            have hcv := one_text wr b
            have z2 : (strOfNums [b]).size = 1 := by rw [strOfNums_size]; rfl
            generalize strOfNums [b] = sb at hcv hT z2
            generalize strOfNums (xs.take i) = st at hT z1
            have q1 : (9223372036854775807 < st.size + sb.size) = False := eq_false (by omega)
            have q2 : (9223372036854775807 < i + 1) = False := eq_false (by omega)
            have NT := Aside0.mk hT
            clear hT
            go_wp2
            obtain ⟨k2, rfl⟩ : ∃ k2, gk = k2 + 1 := ⟨gk - 1, by omega⟩
            go_roundg k2
            case measure => omega
            case rel => exact ⟨i + 1, by omega, by rw [← NT.out], by simp, (hBx_ hzi).trans hgi, below_alloc hBi _, by simp; omega⟩
          · have hlb : decide ((i : Int) < (m : Int)) = false := decide_eq_false hlt
            obtain rfl : i = m := by omega
            go_wp2
            go_ret
            exact ⟨by rw [NXS.out]; simp, hBi⟩
  · have hnb : decide (1 ≤ n ∧ n ≤ 16) = false := decide_eq_false hn
    have hI := inS n
    rw [hnb] at hI
    rw [if_neg (by simp; omega)]
    go_enter Tryd.func21, Tryd.ntmps21
    go_wp2_with (go_at_call 54; refine (hI _).mono ?_; rintro e w2 ⟨rfl, hb2⟩)
    go_ret
    exact ⟨rfl, hb2⟩
end Go.Proofs.YtbkodnhnadkhdaaDoor.Str
