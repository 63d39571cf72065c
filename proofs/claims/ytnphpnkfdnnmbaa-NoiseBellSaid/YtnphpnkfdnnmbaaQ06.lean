/-
  The walks of the reference for powers of two (theodoliteref06): pow, times, Root, Exp, LogSum.
-/
import Derived.Test.YtnphpnkfdnnmbaaA03
import Derived.Test.YtnphpnkfdnnmbaaR06
namespace Go.Proofs.Ytnphpnkfdnnmbaa
open Go.RowKit
set_option linter.unusedVariables false

theorem pow_any (n : Nat) (w : World) (hn : n ≤ 62) : Calls Try.prog 89 #[.int .i64 n] w fun e w' => e = .returned (.int .i64 ((2 ^ n : Nat) : Int)) ∧ w = w' := by
  go_enter Try.func89, Try.ntmps89
  go_wp2
  go_loop [3, 4] (fun o i => ∃ k : Nat, k ≤ n ∧ i = .int .i64 k ∧ o = .int .i64 ((2 ^ k : Nat) : Int)) (fun _ i => n - (intOf i).toNat)
  case atStart => exact ⟨0, by omega, rfl, rfl⟩
  case round =>
    obtain ⟨k, hk, rfl, rfl⟩ := hrel
    by_cases hlt : k < n
    · have hp : 2 ^ k ≤ 2 ^ 61 := Nat.pow_le_pow_right (by omega) (by omega)
      have hs : Hid (2 ^ (k + 1) = 2 * 2 ^ k) := Lib.hid (by rw [Nat.pow_succ, Nat.mul_comm])
      obtain ⟨p, hpp⟩ : ∃ p, p = 2 ^ k := ⟨_, rfl⟩
      rw [← hpp] at hp hs ⊢
      have ep : IntKind.i64.wrap (2 * (p : Int)) = 2 * (p : Int) := IntWalk.i64_in _ (by omega)
      clear hpp
      go_wp2
      refine ⟨⟨k + 1, by omega, by go_num, by rw [hs.out]; first | rfl | go_num⟩, by simp [intOf]; omega⟩
    · obtain rfl : k = n := by omega
      go_wp2
      go_ret
      exact ⟨rfl, rfl⟩

theorem mul_nat (a b : Nat) (w : World) (ha : a < 9223372036854775808) (hb : b < 9223372036854775808) :
    Calls Try.prog 19 #[.int .i64 a, .int .i64 b] w fun e w' => e = .returned (.agg (numA false (a * b))) ∧ Below w.heap.size w w' := by
  have h := Mul_any (a : Int) (b : Int) w (by omega) (by omega) (by omega) (by omega)
  rw [show ((a : Int) * (b : Int)) = ((a * b : Nat) : Int) by simp] at h
  unfold numI at h
  rw [decide_eq_false (by omega), Int.natAbs_natCast] at h
  exact h

set_option maxHeartbeats 2000000 in
set_option maxRecDepth 100000 in
theorem times_any (a b : Nat) (w : World) (ha : a ≤ 4611686018427387904) (hb : b < 4611686018427387904) :
    Calls Try.prog 91 #[.int .u64 a, .int .u64 b] w fun e w' => e = .returned (.int .u64 ((a * b / 4611686018427387904 : Nat) : Int)) ∧ Below w.heap.size w w' := by
  have hzN := zeroN
  have bm : a * b ≤ 4611686018427387904 * 4611686018427387904 := Nat.mul_le_mul ha (Nat.le_of_lt hb)
  have C1 : Hid (∀ w : World, Calls Try.prog 19 #[.int .i64 ((a : Int) / 2), .int .i64 b] w fun e w' => e = .returned (.agg (numA false (a / 2 * b))) ∧ Below w.heap.size w w') := Lib.hid (fun w => mul_nat (a / 2) b w (by omega) (by omega))
  have C2 : Hid (∀ w : World, Calls Try.prog 19 #[.int .i64 ((a : Int) % 2), .int .i64 b] w fun e w' => e = .returned (.agg (numA false (a % 2 * b))) ∧ Below w.heap.size w w') := Lib.hid (fun w => mul_nat (a % 2) b w (by omega) (by omega))
  obtain ⟨p, hp⟩ : ∃ p, p = a / 2 * b := ⟨_, rfl⟩
  obtain ⟨q, hq⟩ : ∃ q, q = a % 2 * b := ⟨_, rfl⟩
  have hpq : p + p + q = a * b := by
    have e : a / 2 * 2 + a % 2 = a := by omega
    have : (a / 2 * 2 + a % 2) * b = a / 2 * b + a / 2 * b + a % 2 * b := by rw [Nat.add_mul, Nat.mul_two, Nat.add_mul]
    rw [hp, hq, ← this, e]
  rw [← hp] at C1
  rw [← hq] at C2
  have K := Lib.hid (And.intro hpq bm)
  have ha' : (a : Int) ≤ 4611686018427387904 := by omega
  have hb' : (b : Int) ≤ 4611686018427387904 := by omega
  clear hp hq hpq bm ha hb
  go_enter Try.func91, Try.ntmps91
  go_wp2_with fail
  refine (C1.out _).mono ?_; rintro e w1 ⟨rfl, k1⟩; dsimp only
  have h5 := Has.new w1 (numA false p) 33
  replace k1 := k1.alloc k1.size (.cells (numA false p) 33)
  go_wp2_with (first | ((with_reducible refine wl_at_store 33 ?_); refine wl_store_new rfl 33 _ _ rfl _ _ rfl rfl (by first | (with_reducible exact rfl) | simp only [World.size_alloc]) infoN (numA_size _ _) (numA_size _ _) (numA_ones _ _) rfl ?_))
  refine (C2.out _).mono ?_; rintro e w2 ⟨rfl, k2⟩; dsimp only
  replace h5 := (h5.below k2).alloc (.cells (numA false q) 33)
  have h6 := Has.new w2 (numA false q) 33
  replace k2 := (below_step k1 k2 k1.size)
  replace k2 := k2.alloc k2.size (.cells (numA false q) 33)
  clear k1
  go_wp2_with (first | ((with_reducible refine wl_at_store 33 ?_); refine wl_store_new rfl 33 _ _ rfl _ _ rfl rfl (by first | (with_reducible exact rfl) | simp only [World.size_alloc]) infoN (numA_size _ _) (numA_size _ _) (numA_ones _ _) rfl ?_) | ((with_reducible refine wl_at_load 33 ?_); refine wl_load rfl 33 _ rfl _ rfl h5 Try.underlying33 rfl infoN (numA_size _ _) ?_))
  refine (Add_pos p p _ (by have := K.out; omega)).mono ?_; rintro e w3 ⟨rfl, k3⟩; dsimp only
  replace h6 := (h6.below k3).alloc (.cells (numA false (p + p)) 33)
  have h7 := Has.new w3 (numA false (p + p)) 33
  replace k3 := (below_step k2 k3 k2.size)
  replace k3 := k3.alloc k3.size (.cells (numA false (p + p)) 33)
  clear k2 h5
  go_wp2_with (first | ((with_reducible refine wl_at_store 33 ?_); refine wl_store_new rfl 33 _ _ rfl _ _ rfl rfl (by first | (with_reducible exact rfl) | simp only [World.size_alloc]) infoN (numA_size _ _) (numA_size _ _) (numA_ones _ _) rfl ?_) | ((with_reducible refine wl_at_load 33 ?_); refine wl_load rfl 33 _ rfl _ rfl h7 Try.underlying33 rfl infoN (numA_size _ _) ?_) | ((with_reducible refine wl_at_load 33 ?_); refine wl_load rfl 33 _ rfl _ rfl h6 Try.underlying33 rfl infoN (numA_size _ _) ?_))
  refine (Add_pos (p + p) q _ (by have := K.out; omega)).mono ?_; rintro e w4 ⟨rfl, k4⟩; dsimp only
  have h9 := Has.new w4 (numA false (p + p + q)) 33
  replace k4 := (below_step k3 k4 k3.size)
  replace k4 := k4.alloc k4.size (.cells (numA false (p + p + q)) 33)
  clear k3 h6 h7
  go_wp2_with (first | ((with_reducible refine wl_at_store 33 ?_); refine wl_store_new rfl 33 _ _ rfl _ _ rfl rfl (by first | (with_reducible exact rfl) | simp only [World.size_alloc]) infoN (numA_size _ _) (numA_size _ _) (numA_ones _ _) rfl ?_) | ((with_reducible refine wl_at_load 33 ?_); refine wl_load rfl 33 _ rfl _ rfl h9 Try.underlying33 rfl infoN (numA_size _ _) ?_))
  refine (shifted_any false (p + p + q) 62 _ (by have := K.out; omega) (by omega)).mono ?_; rintro e w5 ⟨rfl, k5⟩; dsimp only
  replace k5 := (below_step k4 k5 k4.size)
  have E : Hid ((p + p + q) / 2 ^ 62 % 18446744073709551616 = a * b / 4611686018427387904) := Lib.hid (by
    have := K.out
    rw [this.1, show (2 : Nat) ^ 62 = 4611686018427387904 by rfl]
    exact Nat.mod_eq_of_lt (by omega))
  rw [E.out]
  go_wp2
  go_ret
  exact ⟨rfl, k5⟩

end Go.Proofs.Ytnphpnkfdnnmbaa
