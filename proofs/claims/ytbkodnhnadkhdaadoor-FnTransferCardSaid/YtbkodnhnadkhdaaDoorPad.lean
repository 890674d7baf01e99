/- The bytes that are summed up: the program's and the reference's are the same. Condition: at most a million bytes. -/
import Derived.Test.YtbkodnhnadkhdaaDoorPM5x
import Derived.Test.YtbkodnhnadkhdaaDoorLib
import Derived.Test.YtbkodnhnadkhdaaDoorWord
namespace Go.Proofs.YtbkodnhnadkhdaaDoor.Pad
open Go Go.RowKit Go.Proofs.YtbkodnhnadkhdaaDoor.PM5 Go.Proofs.YtbkodnhnadkhdaaDoorW.PrintWords Go.Proofs.YtbkodnhnadkhdaaDoorW.PrintMore Go.Proofs.YtbkodnhnadkhdaaDoor.Arith Go.Proofs.YtbkodnhnadkhdaaDoor.Lib Go.Proofs.YtbkodnhnadkhdaaDoor.Word
set_option linter.unusedSimpArgs false
set_option linter.unusedVariables false

def zs (n : Nat) : Nat := ((55 - (n : Int)) % 64).toNat
theorem zs_lt (n : Nat) : zs n < 64 := by unfold zs; omega
theorem zs_sum (n : Nat) : (n + 1 + zs n) % 64 = 56 := by unfold zs; omega
def front (s : ByteArray) : List Int := (bytesOf s ++ [128]) ++ List.replicate (zs s.size) 0
theorem front_length (s : ByteArray) : (front s).length = s.size + 1 + zs s.size := by unfold front; simp [bytesOf_length]; omega
def pad (s : ByteArray) : List Int := (front s ++ word (8 * (s.size : Int))) ++ word 0
theorem pad_length (s : ByteArray) : (pad s).length = s.size + 1 + zs s.size + 8 := by unfold pad; rw [List.length_append, List.length_append, front_length, word_length, word_length]
theorem pad_mod (s : ByteArray) : (pad s).length % 64 = 0 := by have := zs_sum s.size; rw [pad_length]; omega
theorem bytes_app {l m : List Int} (h : Bytes l) (h' : Bytes m) : Bytes (l ++ m) := fun x hx => by
  rcases List.mem_append.1 hx with h1 | h1
  · exact h x h1
  · exact h' x h1
theorem front_bytes (s : ByteArray) : Bytes (front s) :=
  bytes_app (bytes_app (bytesOf_bytes s) (fun x hx => by simp at hx; omega)) (fun x hx => by obtain ⟨_, rfl⟩ := List.mem_replicate.1 hx; omega)
theorem pad_bytes (s : ByteArray) : Bytes (pad s) := bytes_app (bytes_app (front_bytes s) (word_bytes _)) (word_bytes _)
theorem strOfNums_append (l m : List Int) : strOfNums (l ++ m) = strOfNums l ++ strOfNums m := by
  apply bytes_ext
  simp [strOfNums_data]
theorem conv_ok (s : ByteArray) (h : s.size ≤ 1000000) : conv.f s = some (bytesOf s) := by unfold conv.f; rw [if_pos (by omega)]
theorem rep_succ (x : List Int) (d : Nat) : x ++ List.replicate (d + 1) 0 = (x ++ [0]) ++ List.replicate d 0 := by rw [List.append_assoc]; rfl

def le : Nat → Int → List Int
  | 0, _ => []
  | d + 1, x => x % 256 :: le d (x / 256)
theorem le_word (x : Int) (h0 : 0 ≤ x) (h1 : x < 4294967296) : le 8 x = word x ++ word 0 := by
  simp only [le, word, List.cons_append, List.nil_append]
  simp only [List.cons.injEq]
  refine ⟨trivial, trivial, ?_, ?_, ?_, ?_, ?_, ?_, trivial⟩ <;> omega
theorem spec_l1 (d : Nat) : ∀ (i : Nat) (x : Int) (l : List Int), i + d = 8 → 0 ≤ x → x < 9223372036854775808 → l.length + d ≤ 1000000000 → Ev (fun k => spec_PadStrong.l1 k l x i) (l ++ le d x) := by
  induction d with
  | zero =>
    intro i x l h h0 h1 hl
    refine ev_at fun k => ?_
    simp only [spec_PadStrong.l1]
    rw [if_neg (by omega)]
    simp [le]
  | succ d ih =>
    intro i x l h h0 h1 hl
    have hi := ih (i + 1) (x / 256) (l ++ [x % 256]) (by omega) (by omega) (by omega) (by simp; omega)
    rw [List.append_assoc, List.singleton_append] at hi
    refine Ev.step (fun k => ?_) hi
    simp only [spec_PadStrong.l1]
    rw [if_pos (by omega), if_pos (by omega), Int.tmod_eq_emod_of_nonneg h0, Int.tdiv_eq_ediv_of_nonneg h0, w64 (x := x / 256) (by omega) (by omega), w64s i (by omega), Int.emod_emod_of_dvd x (Int.dvd_refl 256)]
theorem spec_l0 (s : ByteArray) (d : Nat) : ∀ (x : List Int) (r : List Int), d < 64 → (x.length + d) % 64 = 56 → x.length + d ≤ 1000000000 → Ev (fun k => spec_PadStrong.l1 k (x ++ List.replicate d 0) (wrap64 (8 * (s.size : Int))) 0) r → Ev (fun k => spec_PadStrong.l0 k s x) r := by
  induction d with
  | zero =>
    intro x r _ h hl hr
    refine Ev.step (fun k => ?_) hr
    simp only [spec_PadStrong.l0]
    rw [if_pos (by omega)]
    simp
  | succ d ih =>
    intro x r hd h hl hr
    rw [rep_succ] at hr
    refine Ev.step (fun k => ?_) (ih (x ++ [0]) r (by omega) (by simp; omega) (by simp; omega) hr)
    simp only [spec_PadStrong.l0]
    rw [if_neg (by omega), if_pos (by omega)]
theorem spec_ev (s : ByteArray) (h : s.size ≤ 20000) : Ev (fun k => spec_PadStrong.f k s) (pad s) := by
  unfold spec_PadStrong.f
  simp only [if_neg (show ¬ (s.size : Int) > 20000 by omega), conv_ok s (by omega), Option.bind_some, bytesOf_length, if_pos (show s.size < 140737488355328 by omega)]
  have hz := zs_sum s.size
  have hz2 := zs_lt s.size
  refine spec_l0 s (zs s.size) (bytesOf s ++ [128]) _ hz2 (by simp [bytesOf_length]; omega) (by simp [bytesOf_length]; omega) ?_
  have h1 := spec_l1 8 0 (8 * (s.size : Int)) (front s) rfl (by omega) (by omega) (by rw [front_length]; omega)
  rw [le_word _ (by omega) (by omega), ← List.append_assoc] at h1
  rw [w64 (by omega) (by omega)]
  exact h1
theorem impl_l0 (s : ByteArray) (hs : s.size ≤ 1000000) (d : Nat) : ∀ (x : List Int), d < 64 → (x.length + d) % 64 = 56 → x.length + d ≤ 1000000000 → Ev (fun k => impl_padded.l0 k s x) (strOfNums (((x ++ List.replicate d 0) ++ word (8 * (s.size : Int))) ++ word 0)) := by
  induction d with
  | zero =>
    intro x _ h hl
    refine ev_at fun k => ?_
    simp only [impl_padded.l0]
    rw [if_pos (by omega), w64 (x := 8 * (s.size : Int)) (by omega) (by omega), Int.emod_eq_of_lt (a := 8 * (s.size : Int)) (b := 4294967296) (by omega) (by omega), show 8 * (s.size : Int) / 4294967296 % 4294967296 = 0 from by omega]
    rw [word_text, Option.bind_some, if_pos (by rw [strOfNums_size, strOfNums_size, word_length]; omega), word_text, Option.bind_some, if_pos (by rw [ByteArray.size_append, strOfNums_size, strOfNums_size, strOfNums_size, word_length, word_length]; omega)]
    rw [strOfNums_append, strOfNums_append]
    simp
  | succ d ih =>
    intro x hd h hl
    have hi := ih (x ++ [0]) (by omega) (by simp; omega) (by simp; omega)
    rw [← rep_succ] at hi
    refine Ev.step (fun k => ?_) hi
    simp only [impl_padded.l0]
    rw [if_neg (by omega), if_pos (by omega)]
theorem impl_ev (s : ByteArray) (hs : s.size ≤ 1000000) : Ev (fun k => impl_padded.f k s) (strOfNums (pad s)) := by
  unfold impl_padded.f
  simp only [conv_ok s hs, Option.bind_some, bytesOf_length, if_pos (show s.size < 140737488355328 by omega)]
  have hz := zs_sum s.size
  have hz2 := zs_lt s.size
  exact impl_l0 s hs (zs s.size) (bytesOf s ++ [128]) hz2 (by simp [bytesOf_length]; omega) (by simp [bytesOf_length]; omega)

end Go.Proofs.YtbkodnhnadkhdaaDoor.Pad
