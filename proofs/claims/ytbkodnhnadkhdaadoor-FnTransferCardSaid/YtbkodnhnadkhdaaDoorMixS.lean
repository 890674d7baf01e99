import Derived.Test.YtbkodnhnadkhdaaDoorMixK
import Derived.Test.YtbkodnhnadkhdaaDoorMixP
namespace Go.Proofs.YtbkodnhnadkhdaaDoor.Mix
open Go Go.RowKit Go.Proofs.YtbkodnhnadkhdaaDoor.PM5 Go.Proofs.YtbkodnhnadkhdaaDoorW.PrintWords Go.Proofs.YtbkodnhnadkhdaaDoorW.PrintLast Go.Proofs.YtbkodnhnadkhdaaDoorW.PrintMore
set_option linter.unusedVariables false
set_option maxHeartbeats 2000000 in
set_option maxRecDepth 100000 in
theorem mixS (a0 b0 c0 d0 : Int) (blk : ByteArray) (w : World) (hb : blk.size = 64) :
    Calls Tryd.prog 12 #[.agg #[.int .u32 a0, .int .u32 b0, .int .u32 c0, .int .u32 d0], .string blk] w fun e w' => e = .returned (.agg #[.int .u32 (mixOut blk (a0, b0, c0, d0)).1, .int .u32 (mixOut blk (a0, b0, c0, d0)).2.1, .int .u32 (mixOut blk (a0, b0, c0, d0)).2.2.1, .int .u32 (mixOut blk (a0, b0, c0, d0)).2.2.2]) ∧ Below w.heap.size w w' := by
  have hb1 : ((blk.size : Int) != 64) = false := by rw [hb]; rfl
  have hb2 : decide (blk.size = 64) = true := decide_eq_true hb
  go_enter Tryd.func12, Tryd.ntmps12
  go_wp2
  go_quiet (fail)
  go_wp2
  obtain ⟨W1, hW1⟩ : ∃ W1, W1 = (((w.alloc (Obj.cells #[Value.int IntKind.u32 a0, Value.int IntKind.u32 b0, Value.int IntKind.u32 c0, Value.int IntKind.u32 d0] 23)).alloc (Obj.cells #[Value.int IntKind.u32 0, Value.int IntKind.u32 0, Value.int IntKind.u32 0, Value.int IntKind.u32 0] 23)).drewN nq) := ⟨_, rfl⟩
  have hs1 : W1.heap.size = w.heap.size + 2 := by rw [hW1]; simp
  have hB1 : Below w.heap.size w W1 := by rw [hW1]; exact pw_below_drewN (below_alloc (below_alloc (Below.refl _ _) _) _) _
  have hr1 : W1.heap[w.heap.size + 1]? = some (.cells #[Value.int IntKind.u32 0, Value.int IntKind.u32 0, Value.int IntKind.u32 0, Value.int IntKind.u32 0] 23 (0, 0)) := by
    rw [hW1]
    have := heap_alloc_new (w.alloc (Obj.cells #[Value.int IntKind.u32 a0, Value.int IntKind.u32 b0, Value.int IntKind.u32 c0, Value.int IntKind.u32 d0] 23)) (Obj.cells #[Value.int IntKind.u32 0, Value.int IntKind.u32 0, Value.int IntKind.u32 0, Value.int IntKind.u32 0] 23)
    simpa using this
  have hr0 : W1.heap[w.heap.size]? = some (.cells #[Value.int IntKind.u32 a0, Value.int IntKind.u32 b0, Value.int IntKind.u32 c0, Value.int IntKind.u32 d0] 23 (0, 0)) := by
    rw [hW1]
    have := heap_alloc_new w (Obj.cells #[Value.int IntKind.u32 a0, Value.int IntKind.u32 b0, Value.int IntKind.u32 c0, Value.int IntKind.u32 d0] 23)
    have h2 := (below_alloc (Below.refl (w.alloc (Obj.cells #[Value.int IntKind.u32 a0, Value.int IntKind.u32 b0, Value.int IntKind.u32 c0, Value.int IntKind.u32 d0] 23)).heap.size (w.alloc (Obj.cells #[Value.int IntKind.u32 a0, Value.int IntKind.u32 b0, Value.int IntKind.u32 c0, Value.int IntKind.u32 d0] 23))) (Obj.cells #[Value.int IntKind.u32 0, Value.int IntKind.u32 0, Value.int IntKind.u32 0, Value.int IntKind.u32 0] 23)).block w.heap.size (by simp)
    exact h2.trans this
  rw [← hW1]
  clear hW1
  go_loopg [5, 6, 7, 8, 9] 64 (fun kq v5 v6 v7 v8 v9 w' => ∃ (n : Nat) (a b c d : Int), n + kq = 64 ∧ st blk (a0, b0, c0, d0) n = (a, b, c, d) ∧ v5 = .int .u32 a ∧ v6 = .int .u32 b ∧ v7 = .int .u32 c ∧ v8 = .int .u32 d ∧ v9 = .int .i64 (n : Int) ∧ Below W1.heap.size W1 w')
  case atStart => exact ⟨0, a0, b0, c0, d0, by omega, rfl, rfl, rfl, rfl, rfl, rfl, Below.refl _ _⟩
  case round =>
    obtain ⟨n, a, b, c, d, hn, hst, rfl, rfl, rfl, rfl, rfl, hBw⟩ := hrel
    by_cases h64 : (n : Int) < 64
    · have h64b : decide ((n : Int) < 64) = true := decide_eq_true h64
      have hq := tdiv16 n
      go_upto_block 2 with fail
      go_cut [10, 11] (fun v10 v11 wc => v10 = .int .u32 (fOf n b c d) ∧ v11 = .int .i64 (gOf n : Int) ∧ wc = wr)
      case first =>
        by_cases q0 : n / 16 = 0
        · have q0b : (Int.tdiv (n : Int) 16 == 0) = true := by rw [hq, q0]; rfl
          go_wp2
          go_meet
          case rel => exact ⟨by simp [fOf, q0], by simp [gOf, q0], rfl⟩
        · have q0b : (Int.tdiv (n : Int) 16 == 0) = false := by rw [hq]; simp; omega
          by_cases q1 : n / 16 = 1
          · have q1b : (Int.tdiv (n : Int) 16 == 1) = true := by rw [hq, q1]; rfl
            go_wp2
            go_meet
            case rel => exact ⟨by simp [fOf, q1], congrArg (Value.int .i64) (by unfold gOf; rw [if_neg q0, if_pos q1]; omega), rfl⟩
          · have q1b : (Int.tdiv (n : Int) 16 == 1) = false := by rw [hq]; simp; omega
            by_cases q2 : n / 16 = 2
            · have q2b : (Int.tdiv (n : Int) 16 == 2) = true := by rw [hq, q2]; rfl
              go_wp2
              go_meet
              case rel => exact ⟨by simp [fOf, q2], congrArg (Value.int .i64) (by unfold gOf; rw [if_neg q0, if_neg q1, if_pos q2]; omega), rfl⟩
            · have q2b : (Int.tdiv (n : Int) 16 == 2) = false := by rw [hq]; simp; omega
              go_wp2
              go_meet
              case rel => exact ⟨by simp [fOf, q0, q1, q2], congrArg (Value.int .i64) (by unfold gOf; rw [if_neg q0, if_neg q1, if_neg q2]; omega), rfl⟩
      case rest =>
        obtain ⟨rfl, rfl, rfl⟩ := hcut
        have hg := gOf_lt n (by omega)
        have hgw := getWord_eq blk (gOf n) hb hg
        have hK := l04K_eq n (by omega)
        have hSh := l04S_eq n (by omega)
        have hrg := turn_range n (by omega)
        have hcv : conv.f (blk.extract (4 * gOf n) (4 * gOf n + 4)) = some (bytesOf (blk.extract (4 * gOf n) (4 * gOf n + 4))) := by unfold conv.f; rw [if_pos (by rw [ByteArray.size_extract]; omega)]
        have w4 : IntKind.i64.wrap (4 * (gOf n : Int)) = 4 * (gOf n : Int) := by rw [IntKind.wrap_i64]; omega
        have w5 : IntKind.i64.wrap (4 * (gOf n : Int) + 4) = 4 * (gOf n : Int) + 4 := by rw [IntKind.wrap_i64]; omega
        have s0 : (0 : Int) ≤ 4 * (gOf n : Int) := by omega
        have s0b := eq_true s0
        have s0d := decide_eq_true s0
        have s1 : 4 * (gOf n : Int) + 4 ≤ (blk.size : Int) := by omega
        have s1b := eq_true s1
        have s1d := decide_eq_true s1
        have s2 : (4 * (gOf n : Int)).toNat = 4 * gOf n := by omega
        have s3 : (4 * (gOf n : Int) + 4).toNat = 4 * gOf n + 4 := by omega
        have s4 : 4 * (gOf n : Int) ≤ 4 * (gOf n : Int) + 4 := by omega
        have s4b := eq_true s4
        have s4d := decide_eq_true s4
        clear hb
        obtain ⟨sh, hsh⟩ : ∃ sh, sh = turnOf n := ⟨_, rfl⟩
        rw [← hsh] at hSh hrg
        obtain ⟨kk, hkk⟩ : ∃ kk, kk = sinesL.getD n 0 := ⟨_, rfl⟩
        rw [← hkk] at hK
        have hnx : st blk (a0, b0, c0, d0) (n + 1) = rnd blk n (st blk (a0, b0, c0, d0) n) := rfl
        rw [hst, rnd, ← hkk, show (turnsR.getD (n / 16) []).getD (n % 4) 0 = sh from hsh.symm] at hnx
        clear hst hkk hsh
        generalize gOf n = g at *
        go_wp2_with (first | ((with_reducible refine gate_dst (N := 87) rfl ?_); refine conv_wp ?hg (N := 87) ?hd _ 9 50 5 rfl (blk.extract (4 * g) (4 * g + 4)) rfl Tryd.underlying9 Tryd.underlying50 Tryd.underlying5 hcv ?_; (case hd => rfl); (case hg => rfl); rintro e w2 ⟨v0, rfl, hV, hb2⟩; refine ⟨_, rfl, ?_⟩; obtain ⟨A1, c1, rfl, hc1, hC1⟩ := hV) | (go_at_call 46; refine (spec_GetWord.calls A1 c1 _ (wd blk g) true _ (hC1 _ (fun _ _ _ => rfl)) hc1 hgw).mono ?_; rintro e w3 ⟨rfl, q, rfl⟩) | (go_at_call 47; refine (spec_l04K.calls _ kk _ hK).mono ?_; rintro e w4 ⟨rfl, hb4⟩) | (go_at_call 48; refine (spec_l04S.calls _ sh _ hSh).mono ?_; rintro e w5 ⟨rfl, hb5⟩))
        obtain ⟨k1, rfl⟩ : ∃ k1, gk = k1 + 1 := ⟨gk - 1, by omega⟩
        go_roundg k1
        case measure => omega
        case rel =>
          refine ⟨n + 1, _, _, _, _, by omega, hnx, rfl, congrArg (Value.int .u32) ?_, rfl, rfl, by simp, ?_⟩
          · rw [rot_pow _ _ hrg.1 hrg.2]
          · exact below_step (below_step (pw_below_drewN (below_step hBw hb2) _) hb4) hb5
    · have h64b : decide ((n : Int) < 64) = false := decide_eq_false h64
      obtain rfl : n = 64 := by omega
      have hw0 := (hBw.block w.heap.size (by omega)).trans hr0
      have hw1 := (hBw.block (w.heap.size + 1) (by omega)).trans hr1
      have l0 : wr.cell? ⟨w.heap.size, 0, none⟩ = some (.int .u32 a0) := by simp [World.cell?, hw0]
      have l1 : wr.cell? ⟨w.heap.size, 1, none⟩ = some (.int .u32 b0) := by simp [World.cell?, hw0]
      have l2 : wr.cell? ⟨w.heap.size, 2, none⟩ = some (.int .u32 c0) := by simp [World.cell?, hw0]
      have l3 : wr.cell? ⟨w.heap.size, 3, none⟩ = some (.int .u32 d0) := by simp [World.cell?, hw0]
      have m0 : wr.cell? ⟨w.heap.size + 1, 0, none⟩ = some (.int .u32 0) := by simp [World.cell?, hw1]
      have m1 : wr.cell? ⟨w.heap.size + 1, 1, none⟩ = some (.int .u32 0) := by simp [World.cell?, hw1]
      have m2 : wr.cell? ⟨w.heap.size + 1, 2, none⟩ = some (.int .u32 0) := by simp [World.cell?, hw1]
      have m3 : wr.cell? ⟨w.heap.size + 1, 3, none⟩ = some (.int .u32 0) := by simp [World.cell?, hw1]
      have f0 : wr.frozen? ⟨w.heap.size + 1, 0, none⟩ = false := by simp [World.frozen?, hw1]
      have f1 : wr.frozen? ⟨w.heap.size + 1, 1, none⟩ = false := by simp [World.frozen?, hw1]
      have f2 : wr.frozen? ⟨w.heap.size + 1, 2, none⟩ = false := by simp [World.frozen?, hw1]
      have f3 : wr.frozen? ⟨w.heap.size + 1, 3, none⟩ = false := by simp [World.frozen?, hw1]
      go_wp2
      refine bodyPost_ret (results_cell_row (p := 4) (ty := 23) rfl _ _ (w.heap.size + 1) 23 #[.int .u32 (mixOut blk (a0, b0, c0, d0)).1, .int .u32 (mixOut blk (a0, b0, c0, d0)).2.1, .int .u32 (mixOut blk (a0, b0, c0, d0)).2.2.1, .int .u32 (mixOut blk (a0, b0, c0, d0)).2.2.2] (0, 0) _ rfl ?hg Tryd.underlying23 rfl (by kernel_rfl)) rfl ?post
      case hg =>
        have hm : mixOut blk (a0, b0, c0, d0) = ((a0 + a) % 4294967296, (b0 + b) % 4294967296, (c0 + c) % 4294967296, (d0 + d) % 4294967296) := by unfold mixOut; rw [hst]
        clear hst
        rw [hm]
        exact heap_setCell_self _ _ _ _ _ _ _ (heap_setCell_self _ _ _ _ _ _ _ (heap_setCell_self _ _ _ _ _ _ _ (heap_setCell_self _ _ _ _ _ _ _ hw1)))
      case post => exact ⟨rfl, Below.setCell (Below.setCell (Below.setCell (Below.setCell (below_step hB1 hBw) (by simp) _) (by simp) _) (by simp) _) (by simp) _⟩
end Go.Proofs.YtbkodnhnadkhdaaDoor.Mix
