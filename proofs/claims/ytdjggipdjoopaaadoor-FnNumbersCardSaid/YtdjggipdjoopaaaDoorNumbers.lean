/- Bytes written and read back: a number, a word, hexadecimal digits, a decimal numeral. No condition but the numbers' own range. -/
import Derived.Test.YtdjggipdjoopaaaDoorPFnx1
import Derived.Test.YtdjggipdjoopaaaDoorPFnx3
import Derived.Test.YtdjggipdjoopaaaDoorPFnx4
import Derived.Test.YtdjggipdjoopaaaDoorPFnx5
import Derived.Test.YtdjggipdjoopaaaDoorPFnx6
import Derived.Test.YtdjggipdjoopaaaDoorPFnx7
import Derived.Test.YtdjggipdjoopaaaDoorPFnx8
import Derived.Test.YtdjggipdjoopaaaDoorPFnx9
import Derived.Test.YtdjggipdjoopaaaDoorItoa
import Derived.Test.YtdjggipdjoopaaaDoorVarText
import Derived.Test.YtdjggipdjoopaaaDoorWord
import Derived.Test.YtdjggipdjoopaaaDoorHex
namespace Go.Proofs.YtdjggipdjoopaaaDoor.Numbers
open Go Go.RowKit Go.Proofs.YtdjggipdjoopaaaDoor.PFn Go.Proofs.YtdjggipdjoopaaaDoorW.PrintWords Go.Proofs.YtdjggipdjoopaaaDoorW.PrintMore Go.Proofs.YtdjggipdjoopaaaDoor.Arith Go.Proofs.YtdjggipdjoopaaaDoor.Lib Go.Proofs.YtdjggipdjoopaaaDoor.Var Go.Proofs.YtdjggipdjoopaaaDoor.VarText
set_option linter.unusedSimpArgs false
set_option linter.unusedVariables false

theorem rd_left (l m : List Int) (i : Nat) (h : i < l.length) : rd (l ++ m) (i : Int) = rd l (i : Int) := by
  unfold rd
  simp only [Int.toNat_natCast, List.getD_eq_getElem?_getD, List.getElem?_append_left h]
theorem rd_mid (l : List Int) (x : Int) (m : List Int) : rd (l ++ x :: m) (l.length : Int) = x := by
  unfold rd
  simp [List.getD_eq_getElem?_getD]
theorem rd_mid1 (l : List Int) (x y : Int) (m : List Int) : rd (l ++ x :: y :: m) ((l.length + 1 : Nat) : Int) = y := by
  have := rd_mid (l ++ [x]) y m
  simpa using this
theorem fs_pv (tail : List Int) (n : Nat) : ∀ x : Int, 0 ≤ x → x < 128 ^ (n + 1) → fs (n + 1) (pv n x ++ tail) = some ((pv n x).length - 1) := by
  induction n with
  | zero =>
    intro x h0 h1
    have : x < 128 := by simpa using h1
    simp [pv, fs, this]
  | succ n ih =>
    intro x h0 h1
    by_cases h : x < 128
    · rw [pv_small _ h]; simp [fs, h]
    · rw [Int.pow_succ] at h1
      have hp := pv_len_pos n (x / 128)
      rw [pv_big n h, List.cons_append, fs, if_neg (by omega), ih (x / 128) (by omega) (by omega)]
      simp; omega
theorem val_pv (n : Nat) : ∀ x : Int, 0 ≤ x → x < 128 ^ (n + 1) → val (pv n x) = x := by
  induction n with
  | zero =>
    intro x h0 h1
    have : x < 128 := by simpa using h1
    simp [pv, val]; omega
  | succ n ih =>
    intro x h0 h1
    by_cases h : x < 128
    · rw [pv_small _ h]; simp [val]; omega
    · rw [Int.pow_succ] at h1
      rw [pv_big n h, val, ih (x / 128) (by omega) (by omega)]
      omega
theorem last_pv (n : Nat) : ∀ x : Int, 1 ≤ x → x < 128 ^ (n + 1) → rd (pv n x) (((pv n x).length - 1 : Nat) : Int) ≠ 0 := by
  induction n with
  | zero =>
    intro x h0 h1
    simp [pv, rd]; omega
  | succ n ih =>
    intro x h0 h1
    by_cases h : x < 128
    · rw [pv_small _ h]; simp [rd]; omega
    · rw [Int.pow_succ] at h1
      have hp := pv_len_pos n (x / 128)
      have := ih (x / 128) (by omega) (by omega)
      rw [pv_big n h]
      intro e
      apply this
      rw [← e]
      unfold rd
      rw [Int.toNat_natCast, Int.toNat_natCast, List.length_cons, show (pv n (x / 128)).length + 1 - 1 = ((pv n (x / 128)).length - 1) + 1 by omega]
      rfl
theorem gvr_pv (tail : List Int) (x : Int) (h0 : 0 ≤ x) (h1 : x < 9223372036854775808) : gvr (pv 8 x ++ tail) = (x, ((pv 8 x).length : Int)) := by
  have h2 : x < 128 ^ (8 + 1) := by simpa using h1
  have hp := pv_len_pos 8 x
  unfold gvr
  rw [fs_pv tail 8 x h0 h2]
  simp only
  rw [show (pv 8 x).length - 1 + 1 = (pv 8 x).length by omega, List.take_left, val_pv 8 x h0 h2, if_neg]
  rintro ⟨h3, h4⟩
  rw [rd_left _ _ _ (by omega)] at h4
  by_cases h5 : x < 128
  · rw [pv_small _ h5] at h3; simp at h3
  · exact last_pv 8 x (by omega) h2 h4

def num (a : Int) : List Int := if a < 0 then [] else pv 8 a
theorem num_length (a : Int) : (num a).length ≤ 9 := by
  unfold num
  split
  · simp
  · exact pv_length 8 a
theorem num_bytes (a : Int) (h1 : a < 9223372036854775808) : Bytes (num a) := by
  unfold num
  split
  · intro z hz; simp at hz
  · exact pv8_bytes a (by omega) h1
theorem num_impl (a : Int) (h1 : a < 9223372036854775808) : impl_PutVar.f a = some (num a) := by
  unfold impl_PutVar.f num
  by_cases h : a < 0
  · rw [if_pos h, if_pos h]
  · have hl := pv_length 8 a
    rw [if_neg h, if_neg h, text a (by omega) h1, Option.bind_some, conv_of (pv8_bytes a (by omega) h1) (by omega), Option.bind_some]
def txt (s : ByteArray) : List Int := pv 8 s.size ++ bytesOf s
theorem txt_impl (s : ByteArray) (h : s.size ≤ 20000) : impl_PutText.f s = some (txt s) := by
  unfold impl_PutText.f txt
  have hl := pv_length 8 s.size
  have hb := pv8_bytes s.size (by omega) (by omega)
  have e : strOfNums (pv 8 s.size) ++ s = strOfNums (pv 8 s.size ++ bytesOf s) := by rw [strOfNums_append, strOfNums_bytesOf]
  rw [if_neg (by omega), impl_putText.f, text s.size (by omega) (by omega), Option.bind_some, if_pos (by rw [strOfNums_size]; omega), Option.bind_some, e, conv_of (bytes_app hb (bytesOf_bytes s)) (by rw [List.length_append, bytesOf_length]; omega), Option.bind_some]
theorem txt_bytes (s : ByteArray) (h : s.size ≤ 20000) : Bytes (txt s) := bytes_app (pv8_bytes s.size (by omega) (by omega)) (bytesOf_bytes s)
theorem txt_length (s : ByteArray) : (txt s).length = (pv 8 s.size).length + s.size := by
  unfold txt
  rw [List.length_append, bytesOf_length]

theorem bytes_take {l : List Int} (h : Bytes l) (n : Nat) : Bytes (l.take n) := fun x hx => h x (List.mem_of_mem_take hx)
theorem getVar_ev (l : List Int) (hb : Bytes l) : Ev (fun k => impl_GetVar.f k l) (Var.gvr l) := by
  have hm : (mn (l.length : Int) 9).toNat = min l.length 9 := by unfold mn; split <;> omega
  have h0 : 0 ≤ mn (l.length : Int) 9 := by unfold mn; split <;> omega
  have h1 : mn (l.length : Int) 9 ≤ (l.length : Int) := by unfold mn; split <;> omega
  unfold impl_GetVar.f
  simp only [if_pos h0, if_pos h1, hm]
  have ht : l.take (min l.length 9) = l.take 9 := by
    rcases Nat.le_total l.length 9 with h | h
    · rw [Nat.min_eq_left h, List.take_of_length_le (Nat.le_refl _), List.take_of_length_le h]
    · rw [Nat.min_eq_right h]
  rw [ht]
  have := Var.read_ev (strOfNums (l.take 9))
  rw [bytesOf_strOfNums (bytes_take hb 9), Var.gvr_take] at this
  exact Ev.bind this (Ev.now _)
theorem getText_ev (s : ByteArray) (tail : List Int) (hs : s.size ≤ 20000) (ht : Bytes tail) (hl : tail.length ≤ 1000) : Ev (fun k => impl_GetText.f k (txt s ++ tail)) (s, ((txt s).length : Int)) := by
  have hb := bytes_app (txt_bytes s hs) ht
  have hp := pv_len_pos 8 s.size
  have hp9 := pv_length 8 (s.size : Int)
  unfold impl_GetText.f
  refine Ev.bind (a := (s, ((txt s).length : Int))) ?_ (Ev.now _)
  unfold impl_readText.f
  have hr := Var.read_ev (strOfNums (txt s ++ tail))
  rw [bytesOf_strOfNums hb] at hr
  have hg : gvr (txt s ++ tail) = ((s.size : Int), ((pv 8 (s.size : Int)).length : Int)) := by
    unfold txt
    rw [List.append_assoc]
    exact gvr_pv _ _ (by omega) (by omega)
  rw [hg] at hr
  refine Ev.bind hr ?_
  rw [strOfNums_size, List.length_append, txt_length]
  generalize hq : (pv 8 (s.size : Int)).length = q at *
  have e1 : wrap64 (((q + s.size + tail.length : Nat) : Int) - (q : Int)) = ((s.size + tail.length : Nat) : Int) := by rw [w64 (by omega) (by omega)]; omega
  have e2 : wrap64 ((q : Int) + (s.size : Int)) = ((q + s.size : Nat) : Int) := by rw [w64 (by omega) (by omega)]; omega
  simp only [e1, e2, if_neg (show ¬ ((q : Int) = 0) by omega), if_neg (show ¬ ((s.size : Int) > 20000) by omega), if_neg (show ¬ ((s.size : Int) > ((s.size + tail.length : Nat) : Int)) by omega), if_pos (show (0 : Int) ≤ (q : Int) by omega), if_pos (show (q : Int) ≤ ((q + s.size : Nat) : Int) by omega), if_pos (show ((q + s.size : Nat) : Int) ≤ ((q + s.size + tail.length : Nat) : Int) by omega)]
  have e3 : (strOfNums (txt s ++ tail)).extract (q : Int).toNat ((q + s.size : Nat) : Int).toNat = s := by
    rw [extract_strOfNums, Int.toNat_natCast, Int.toNat_natCast, List.take_append_of_le_length (by rw [txt_length, hq]; omega), List.take_of_length_le (by rw [txt_length, hq]; omega)]
    unfold txt
    rw [← hq, List.drop_left, strOfNums_bytesOf]
  rw [e3]
  exact Ev.now _

theorem getWord (a : Int) (h0 : 0 ≤ a) (h1 : a < 4294967296) : impl_GetWord.f (Word.word a) = some (a, true) := by
  unfold impl_GetWord.f
  rw [Word.word_length, if_pos (by decide)]
  unfold impl_readWord.f
  rw [strOfNums_size, Word.word_length, if_pos (by decide), if_pos (by decide), if_pos (by decide), if_pos (by decide)]
  simp only [bt_strOfNums (Word.word_bytes a), Option.bind_some]
  have e0 : rd (Word.word a) 0 = a % 256 := rfl
  have e1 : rd (Word.word a) 1 = a / 256 % 256 := rfl
  have e2 : rd (Word.word a) 2 = a / 65536 % 256 := rfl
  have e3 : rd (Word.word a) 3 = a / 16777216 % 256 := rfl
  rw [e0, e1, e2, e3]
  obtain ⟨b0, hb0⟩ : ∃ b, b = a % 256 := ⟨_, rfl⟩
  obtain ⟨b1, hb1⟩ : ∃ b, b = a / 256 % 256 := ⟨_, rfl⟩
  obtain ⟨b2, hb2⟩ : ∃ b, b = a / 65536 % 256 := ⟨_, rfl⟩
  obtain ⟨b3, hb3⟩ : ∃ b, b = a / 16777216 % 256 := ⟨_, rfl⟩
  rw [← hb0, ← hb1, ← hb2, ← hb3]
  rw [Int.emod_eq_of_lt (a := b0) (by omega) (by omega), Int.emod_eq_of_lt (a := b1) (by omega) (by omega), Int.emod_eq_of_lt (a := b2) (by omega) (by omega), Int.emod_eq_of_lt (a := b3) (by omega) (by omega)]
  rw [Int.emod_eq_of_lt (a := b1 * 256) (by omega) (by omega), Int.emod_eq_of_lt (a := b2 * 65536) (by omega) (by omega), Int.emod_eq_of_lt (a := b3 * 16777216) (by omega) (by omega)]
  rw [or_comm .u32 b0, or_join32 8 (b1 * 256) b0 (by omega) (by omega) (by omega) (by omega) (by omega) (by omega)]
  rw [or_comm .u32 _ (b2 * 65536), or_join32 16 (b2 * 65536) _ (by omega) (by omega) (by omega) (by omega) (by omega) (by omega)]
  rw [or_comm .u32 _ (b3 * 16777216), or_join32 24 (b3 * 16777216) _ (by omega) (by omega) (by omega) (by omega) (by omega) (by omega)]
  congr 2
  omega
theorem putWord (a : Int) : impl_PutWord.f a = some (Word.word a) := by
  unfold impl_PutWord.f
  rw [Word.word_text, Option.bind_some, conv_of (Word.word_bytes a) (by rw [Word.word_length]; omega), Option.bind_some]

def digits : ByteArray := ⟨#[48, 49, 50, 51, 52, 53, 54, 55, 56, 57, 97, 98, 99, 100, 101, 102]⟩
theorem dig_back : ∀ n : Fin 16, strings_IndexByte.f digits (Hex.dig (n.val : Int)) = some (n.val : Int) := of_decide_eq_true (by kernel_rfl)
theorem dig_some (x : Int) (h0 : 0 ≤ x) (h1 : x < 16) : strings_IndexByte.f digits (Hex.dig x) = some x := by
  have := dig_back ⟨x.toNat, by omega⟩
  rwa [show (((⟨x.toNat, by omega⟩ : Fin 16).val : Nat) : Int) = x from by simp; omega] at this
theorem hex_bytes (l : List Int) : Bytes (Hex.hexl l) := by
  induction l with
  | nil => intro z hz; simp [Hex.hexl] at hz
  | cons b l ih =>
    intro z hz
    simp only [Hex.hexl, List.mem_cons] at hz
    rcases hz with rfl | rfl | hz
    · exact Hex.dig_range _
    · exact Hex.dig_range _
    · exact ih z hz
theorem hex_loop (rest : List Int) : ∀ (pre acc : List Int), Bytes (pre ++ Hex.hexl rest) → Bytes rest → pre.length + 2 * rest.length ≤ 40000 → acc.length ≤ pre.length → Ev (fun k => impl_readHex.l0 k (strOfNums (pre ++ Hex.hexl rest)) acc pre.length) (strOfNums (acc ++ rest), true) := by
  induction rest with
  | nil =>
    intro pre acc hb hr hl ha
    refine ev_at fun k => ?_
    simp only [impl_readHex.l0]
    rw [if_neg (by rw [strOfNums_size]; simp [Hex.hexl])]
    simp
  | cons b rest ih =>
    intro pre acc hb hr hl ha
    have hb255 := hr b (by simp)
    simp only [List.length_cons] at hl
    have hsz : (strOfNums (pre ++ Hex.hexl (b :: rest))).size = pre.length + 2 * (rest.length + 1) := by
      rw [strOfNums_size, List.length_append, Hex.hexl_length, List.length_cons]
    have e0 : bt (strOfNums (pre ++ Hex.hexl (b :: rest))) (pre.length : Int) = Hex.dig (b / 16) := by
      rw [bt_strOfNums hb]; simp only [Hex.hexl]; exact rd_mid _ _ _
    have e1 : bt (strOfNums (pre ++ Hex.hexl (b :: rest))) ((pre.length + 1 : Nat) : Int) = Hex.dig (b % 16) := by
      rw [bt_strOfNums hb]; simp only [Hex.hexl]; exact rd_mid1 _ _ _ _
    have hpre : pre ++ Hex.hexl (b :: rest) = (pre ++ [Hex.dig (b / 16), Hex.dig (b % 16)]) ++ Hex.hexl rest := by simp [Hex.hexl]
    have := ih (pre ++ [Hex.dig (b / 16), Hex.dig (b % 16)]) (acc ++ [b]) (by rw [← hpre]; exact hb) (fun z hz => hr z (by simp [hz])) (by simp; omega) (by simp; omega)
    rw [← hpre] at this
    rw [show acc ++ [b] ++ rest = acc ++ b :: rest by simp] at this
    refine Ev.step (fun k => ?_) this
    simp only [impl_readHex.l0]
    rw [if_pos (by rw [hsz]; omega), if_pos (by omega), e0]
    rw [show strings_IndexByte.f (⟨#[48, 49, 50, 51, 52, 53, 54, 55, 56, 57, 97, 98, 99, 100, 101, 102]⟩ : ByteArray) (Hex.dig (b / 16)) = some (b / 16) from dig_some _ (by omega) (by omega), Option.bind_some]
    rw [w64s pre.length (by omega), if_pos (by omega), if_pos (by rw [hsz]; omega), e1]
    rw [show strings_IndexByte.f (⟨#[48, 49, 50, 51, 52, 53, 54, 55, 56, 57, 97, 98, 99, 100, 101, 102]⟩ : ByteArray) (Hex.dig (b % 16)) = some (b % 16) from dig_some _ (by omega) (by omega), Option.bind_some]
    rw [if_neg (by omega), if_neg (by omega), if_pos (by omega)]
    rw [w64 (x := 16 * (b / 16)) (by omega) (by omega), w64 (x := 16 * (b / 16) + b % 16) (by omega) (by omega), w64 (x := (pre.length : Int) + 2) (by omega) (by omega)]
    rw [show (16 * (b / 16) + b % 16) % 256 = b by omega]
    congr 1
    simp
theorem hex_back (s : ByteArray) (hs : s.size ≤ 20000) : Ev (fun k => impl_HexBytes.f k (strOfNums (Hex.hexl (bytesOf s)))) (bytesOf s, true) := by
  have hb : Bytes (bytesOf s) := bytesOf_bytes s
  have hl : (bytesOf s).length = s.size := bytesOf_length s
  have hsz : (strOfNums (Hex.hexl (bytesOf s))).size = 2 * s.size := by rw [strOfNums_size, Hex.hexl_length, hl]
  have h0 := hex_loop (bytesOf s) [] [] (by simpa using hex_bytes (bytesOf s)) hb (by simp; omega) (by simp)
  simp only [List.nil_append, List.length_nil] at h0
  unfold impl_HexBytes.f
  refine Ev.bind (a := (strOfNums (bytesOf s), true)) ?_ ?_
  · unfold impl_readHex.f
    simp only [hsz, if_pos (show (((2 * s.size : Nat) : Int) % 2) = 0 by omega), decide_eq_false (show ¬ (((2 * s.size : Nat) : Int) > 40000) by omega)]
    refine Ev.step (fun k => ?_) h0
    simp only [impl_readHex.j0, Bool.false_eq_true, if_false, hsz]
    rw [w64 (x := ((2 * s.size : Nat) : Int) / 2) (by omega) (by omega), if_pos (by omega), if_pos (by omega)]
    rfl
  · simp only [conv_of hb (by omega), Option.bind_some]
    exact Ev.now _

theorem within_ (a b c : Int) : impl_within.f a b c = some (decide (b ≤ a ∧ a ≤ c)) := by
  unfold impl_within.f
  by_cases h : a ≥ b
  · rw [if_pos h]; congr 1; rw [decide_eq_decide]; omega
  · rw [if_neg h]; congr 1; symm; rw [decide_eq_false_iff_not]; omega
theorem decText (n : Int) (h0 : -9223372036854775808 ≤ n) (h1 : n ≤ 9223372036854775807) : impl_DecText.f n = some (Itoa.itoaB n) := by
  unfold impl_DecText.f strconv_Itoa.f
  rw [if_pos ⟨h0, h1⟩]
  rfl
theorem decNum (n : Int) (h0 : -1000000000000 ≤ n) (h1 : n ≤ 1000000000000) : impl_DecNum.f (Itoa.itoaB n) 1000000000000 = some (n, true) := by
  have hl := Go.Lib.itoa_length_le n (by omega) (by omega)
  have hs : (Itoa.itoaB n).size = (Go.Lib.itoa n).length := by show (Go.Lib.itoa n).toArray.size = _; rw [List.size_toArray]
  have hd : (Itoa.itoaB n).data.toList = Go.Lib.itoa n := rfl
  unfold impl_DecNum.f impl_decimal.f
  rw [if_pos (by omega), hd, Itoa.atoi_itoa n (by omega) (by omega)]
  simp only [Option.bind_some, within_, decide_true, if_true, decide_eq_true_eq]
  rw [w64 (x := -1000000000000) (by omega) (by omega), if_pos (by omega), if_pos (by omega)]

end Go.Proofs.YtdjggipdjoopaaaDoor.Numbers
