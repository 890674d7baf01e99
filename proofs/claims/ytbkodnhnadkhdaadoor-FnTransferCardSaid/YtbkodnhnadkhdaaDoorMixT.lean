import Derived.Test.YtbkodnhnadkhdaaDoorMixK
namespace Go.Proofs.YtbkodnhnadkhdaaDoor.Mix
open Go Go.RowKit Go.Proofs.YtbkodnhnadkhdaaDoor.PM5 Go.Proofs.YtbkodnhnadkhdaaDoorW.PrintWords Go.Proofs.YtbkodnhnadkhdaaDoorW.PrintLast Go.Proofs.YtbkodnhnadkhdaaDoorW.PrintMore
set_option linter.unusedVariables false
set_option maxHeartbeats 2000000 in
set_option maxRecDepth 100000 in
theorem mix (a0 b0 c0 d0 : Int) (blk : ByteArray) (w : World) (hT : Tab w) (hb : blk.size = 64) :
    Calls Tryd.prog 49 #[.agg #[.int .u32 a0, .int .u32 b0, .int .u32 c0, .int .u32 d0], .string blk] w fun e w' => e = .returned (.agg #[.int .u32 (mixOut blk (a0, b0, c0, d0)).1, .int .u32 (mixOut blk (a0, b0, c0, d0)).2.1, .int .u32 (mixOut blk (a0, b0, c0, d0)).2.2.1, .int .u32 (mixOut blk (a0, b0, c0, d0)).2.2.2]) ∧ Below w.heap.size w w' := by
  go_enter Tryd.func49, Tryd.ntmps49
  go_wp2
  go_quiet (fail)
  go_wp2
  go_loopg [5, 6, 7, 8, 21] 64 (fun kq v5 v6 v7 v8 v21 w' => ∃ (n m : Nat) (a b c d : Int), n + kq = 64 ∧ st blk (a0, b0, c0, d0) n = (a, b, c, d) ∧ v5 = .int .u32 a ∧ v6 = .int .u32 b ∧ v7 = .int .u32 c ∧ v8 = .int .u32 d ∧ v21 = .int .i64 (n : Int) ∧ w' = (((w.alloc (Obj.cells #[Value.int IntKind.u32 a0, Value.int IntKind.u32 b0, Value.int IntKind.u32 c0, Value.int IntKind.u32 d0] 23)).alloc (Obj.cells #[Value.int IntKind.u32 0, Value.int IntKind.u32 0, Value.int IntKind.u32 0, Value.int IntKind.u32 0] 23))).drewN m)
  case atStart => exact ⟨0, _, a0, b0, c0, d0, by omega, rfl, rfl, rfl, rfl, rfl, rfl, rfl⟩
  case round =>
    obtain ⟨n, m, a, b, c, d, hn, hst, rfl, rfl, rfl, rfl, rfl, rfl⟩ := hrel
    by_cases h64 : (n : Int) < 64
    · have h64b : decide ((n : Int) < 64) = true := decide_eq_true h64
      have hq := tdiv16 n
      go_upto_block 2 with fail
      go_cut [10, 11] (fun v10 v11 wc => v10 = .int .u32 (fOf n b c d) ∧ v11 = .int .i64 (gOf n : Int) ∧ wc = (((w.alloc (Obj.cells #[Value.int IntKind.u32 a0, Value.int IntKind.u32 b0, Value.int IntKind.u32 c0, Value.int IntKind.u32 d0] 23)).alloc (Obj.cells #[Value.int IntKind.u32 0, Value.int IntKind.u32 0, Value.int IntKind.u32 0, Value.int IntKind.u32 0] 23))).drewN m)
      case first =>
        by_cases q0 : n / 16 = 0
        · have q0b : (Int.tdiv (n : Int) 16 == 0) = true := by rw [hq, q0]; rfl
          go_wp2
          go_meet
          case rel => exact ⟨by simp [fOf, q0], by simp [gOf, q0], rfl⟩
        · have q0b : (Int.tdiv (n : Int) 16 == 0) = false := by rw [hq]; simp; omega
          by_cases q1 : n / 16 = 1
          · have q1b : (Int.tdiv (n : Int) 16 == 1) = true := by rw [hq, q1]; rfl
            go_wp2
            go_meet
            case rel => exact ⟨by simp [fOf, q1], congrArg (Value.int .i64) (by unfold gOf; rw [if_neg q0, if_pos q1]; omega), rfl⟩
          · have q1b : (Int.tdiv (n : Int) 16 == 1) = false := by rw [hq]; simp; omega
            by_cases q2 : n / 16 = 2
            · have q2b : (Int.tdiv (n : Int) 16 == 2) = true := by rw [hq, q2]; rfl
              go_wp2
              go_meet
              case rel => exact ⟨by simp [fOf, q2], congrArg (Value.int .i64) (by unfold gOf; rw [if_neg q0, if_neg q1, if_pos q2]; omega), rfl⟩
            · have q2b : (Int.tdiv (n : Int) 16 == 2) = false := by rw [hq]; simp; omega
              go_wp2
              go_meet
              case rel => exact ⟨by simp [fOf, q0, q1, q2], congrArg (Value.int .i64) (by unfold gOf; rw [if_neg q0, if_neg q1, if_neg q2]; omega), rfl⟩
      case rest =>
        obtain ⟨rfl, rfl, rfl⟩ := hcut
        have hg := gOf_lt n (by omega)
        have hrd := wd_eq blk (gOf n) hb hg
        have w4 : IntKind.i64.wrap (4 * (gOf n : Int)) = 4 * (gOf n : Int) := by rw [IntKind.wrap_i64]; omega
        have s0 : (0 : Int) ≤ 4 * (gOf n : Int) := by omega
        have s0b := eq_true s0
        have s0d := decide_eq_true s0
        have s1 : 4 * (gOf n : Int) ≤ (blk.size : Int) := by omega
        have s1b := eq_true s1
        have s1d := decide_eq_true s1
        have s1c : ((blk.size : Int) < 4 * (gOf n : Int)) = False := eq_false (by omega)
        have s0c : (4 * (gOf n : Int) < 0) = False := eq_false (by omega)
        have s2 : (4 * (gOf n : Int)).toNat = 4 * gOf n := by omega
        clear hb
        have hT1 : Tab (((w.alloc (Obj.cells #[Value.int IntKind.u32 a0, Value.int IntKind.u32 b0, Value.int IntKind.u32 c0, Value.int IntKind.u32 d0] 23)).alloc (Obj.cells #[Value.int IntKind.u32 0, Value.int IntKind.u32 0, Value.int IntKind.u32 0, Value.int IntKind.u32 0] 23))) := hT.below (below_alloc (below_alloc (Below.refl _ _) _) _)
        have hS := hT1.sines n (by omega)
        have hS2 : ((((w.alloc (Obj.cells #[Value.int IntKind.u32 a0, Value.int IntKind.u32 b0, Value.int IntKind.u32 c0, Value.int IntKind.u32 d0] 23)).alloc (Obj.cells #[Value.int IntKind.u32 0, Value.int IntKind.u32 0, Value.int IntKind.u32 0, Value.int IntKind.u32 0] 23))).drewN m).cell? ⟨0, n, none⟩ = some (.int .u32 (sinesL.getD n 0)) := hS
        have hU := hT1.turns (n / 16) (n % 4) (by omega) (by omega)
        obtain ⟨sh, hsh⟩ : ∃ sh, sh = (turnsR.getD (n / 16) []).getD (n % 4) 0 := ⟨_, rfl⟩
        rw [← hsh] at hU
        obtain ⟨kk, hkk⟩ : ∃ kk, kk = sinesL.getD n 0 := ⟨_, rfl⟩
        rw [← hkk] at hS hS2
        have hnx : st blk (a0, b0, c0, d0) (n + 1) = rnd blk n (st blk (a0, b0, c0, d0) n) := rfl
        rw [hst, rnd, ← hkk, ← hsh] at hnx
        clear hst hkk hsh
        generalize gOf n = g at *
        go_wp2
        go_quiet ((refine (impl_readWord.calls _ (wd blk g) _ hrd).mono ?_; rintro e w2 ⟨rfl, q, rfl⟩; exact ⟨rfl, _, by rw [World.drewN_drewN, Nat.add_assoc]⟩))
        go_wp2_with (go_at_call 93; refine (bits_RotateLeft32.calls _ _ _ _ (rot_eq _ _)).mono ?_; rintro e w3 ⟨rfl, q, rfl⟩)
        obtain ⟨k1, rfl⟩ : ∃ k1, gk = k1 + 1 := ⟨gk - 1, by omega⟩
        go_roundg k1
        case measure => omega
        case rel => exact ⟨n + 1, _, _, _, _, _, by omega, hnx, rfl, rfl, rfl, rfl, by simp, rfl⟩
    · have h64b : decide ((n : Int) < 64) = false := decide_eq_false h64
      obtain rfl : n = 64 := by omega
      go_wp2
      refine bodyPost_ret (results_cell_row (p := 4) (ty := 23) rfl _ _ (w.heap.size + 1) 23 #[.int .u32 (mixOut blk (a0, b0, c0, d0)).1, .int .u32 (mixOut blk (a0, b0, c0, d0)).2.1, .int .u32 (mixOut blk (a0, b0, c0, d0)).2.2.1, .int .u32 (mixOut blk (a0, b0, c0, d0)).2.2.2] (0, 0) _ rfl ?hg Tryd.underlying23 rfl (by kernel_rfl)) rfl ?post
      case hg =>
        have hm : mixOut blk (a0, b0, c0, d0) = ((a0 + a) % 4294967296, (b0 + b) % 4294967296, (c0 + c) % 4294967296, (d0 + d) % 4294967296) := by unfold mixOut; rw [hst]
        clear hst
        rw [hm]
        exact key4 _ _ _ _ _ _ _ _ _ _ _
      case post => exact ⟨rfl, by repeat (first | exact Below.refl _ _ | apply below_alloc | apply pw_below_drewN | apply Below.setCell _ (by simp))⟩
end Go.Proofs.YtbkodnhnadkhdaaDoor.Mix
