/-
  The walks of the reference for logarithms (theodoliteref06): Log.
-/
import Derived.Test.YtnphpnkfdnnmbaaN03
import Derived.Test.YtnphpnkfdnnmbaaF06
namespace Go.Proofs.Ytnphpnkfdnnmbaa
open Go.RowKit
set_option linter.unusedVariables false

/-! ### 64 bits from the n-th one on -/
theorem bits_from (A n j : Nat) (hj : j ≤ 63) : 2 * (A / 2 ^ (n + (j + 1)) % 2 ^ (64 - (j + 1))) + A / 2 ^ (n + j) % 2 = A / 2 ^ (n + j) % 2 ^ (64 - j) := by
  have e1 : A / 2 ^ (n + (j + 1)) = A / 2 ^ (n + j) / 2 := by rw [Nat.div_div_eq_div_mul, show n + (j + 1) = n + j + 1 by omega, Nat.pow_succ]
  have e2 : 2 ^ (64 - j) = 2 * 2 ^ (64 - (j + 1)) := by rw [show 64 - j = (64 - (j + 1)) + 1 by omega, Nat.pow_succ, Nat.mul_comm]
  rw [e1, e2]
  generalize A / 2 ^ (n + j) = q
  rw [Nat.mod_mul]; omega

set_option maxHeartbeats 2000000 in
set_option maxRecDepth 100000 in
theorem shifted_any (m : Bool) (A n : Nat) (w : World) (hA : A < 2 ^ 129) (hn : n ≤ 65) :
    Calls Try.prog 100 #[.agg (numA m A), .int .i64 n] w fun e w' => e = .returned (.int .u64 ((A / 2 ^ n % 18446744073709551616 : Nat) : Int)) ∧ Below w.heap.size w w' := by
  have HA := Lib.hid hA
  clear hA
  go_enter Try.func100, Try.ntmps100
  go_wp2
  go_loopw [5, 6] (fun o i wr => ∃ (j : Nat) (z : Int), j ≤ 64 ∧ z = (j : Int) - 1 ∧ i = .int .i64 z ∧ o = .int .u64 ((A / 2 ^ (n + j) % 2 ^ (64 - j) : Nat) : Int) ∧ Has wr w.heap.size (numA m A) 33 ∧ Below w.heap.size w wr) (fun _ i _ => (intOf i + 1).toNat)
  case atStart => exact ⟨64, 63, by omega, by omega, rfl, by rw [Nat.pow_zero, Nat.mod_one]; rfl, Has.new _ _ _, by repeat' (first | exact Below.refl _ _ | refine Below.alloc ?_ ?_ _ | exact Nat.le_refl _ | (simp only [World.size_alloc]; omega))⟩
  case round =>
    obtain ⟨j, z, hj, hz, rfl, rfl, g1, g2⟩ := hrel
    rcases j with _ | j
    · obtain rfl : z = -1 := by omega
      clear hz
      obtain ⟨o, ho⟩ : ∃ o, o = A / 2 ^ (n + 0) % 2 ^ (64 - 0) := ⟨_, rfl⟩
      rw [← ho]
      have E : Hid (A / 2 ^ n % 18446744073709551616 = o) := Lib.hid ho.symm
      clear ho
      go_wp2
      go_ret
      exact ⟨by rw [E.out]; rfl, g2⟩
    · obtain rfl : z = (j : Int) := by omega
      clear hz
      have hs := Lib.hid (bits_from A n j (by omega))
      have ho : A / 2 ^ (n + (j + 1)) % 2 ^ (64 - (j + 1)) < 9223372036854775808 := by
        have h1 := Nat.mod_lt (A / 2 ^ (n + (j + 1))) (Nat.two_pow_pos (64 - (j + 1)))
        have h2 : 2 ^ (64 - (j + 1)) ≤ 2 ^ 63 := Nat.pow_le_pow_right (by omega) (by omega)
        omega
      have gA := g1.cell (numA_get m A (j + n) (by omega))
      have eb : Hid (A / 2 ^ (n + j) % 2 = if bit A (j + n) = 1 then 1 else 0) := Lib.hid (by
        unfold bit
        rw [Nat.add_comm n j]
        have := Nat.mod_two_eq_zero_or_one (A / 2 ^ (j + n))
        rcases this with h | h <;> rw [h] <;> rfl)
      generalize A / 2 ^ (n + (j + 1)) % 2 ^ (64 - (j + 1)) = o at *
      have e1 : IntKind.u64.wrap (2 * (o : Int)) = ((2 * o : Nat) : Int) := by rw [IntWalk.u64_in _ (by omega)]; omega
      have e2 : IntKind.u64.wrap (((2 * o : Nat) : Int) + 1) = ((2 * o + 1 : Nat) : Int) := by rw [IntWalk.u64_in _ (by omega)]; omega
      have hlt : decide ((j : Int) + (n : Int) < 129) = true := decide_eq_true (by omega)
      by_cases hb : bit A (j + n) = 1
      · have hb1 : (bit A (j + n) == 1) = true := by rw [hb]; rfl
        have eb2 : Hid (A / 2 ^ (n + j) % 2 = 1) := Lib.hid (by rw [eb.out, if_pos hb])
        clear hb eb
        go_wp2
        refine ⟨⟨j, _, by omega, rfl, rfl, ?_, g1, g2⟩, by simp [intOf]⟩
        rw [← hs.out, eb2.out]
        go_num
      · have hb1 : (bit A (j + n) == 1) = false := by simpa using hb
        have eb2 : Hid (A / 2 ^ (n + j) % 2 = 0) := Lib.hid (by rw [eb.out, if_neg hb])
        clear hb eb
        go_wp2
        refine ⟨⟨j, _, by omega, rfl, rfl, ?_, g1, g2⟩, by simp [intOf]⟩
        rw [← hs.out, eb2.out]
        go_num

/-- A mantissa from 1 on, below 2, times itself. -/
theorem square_any (m : Nat) (w : World) (hm : m < 9223372036854775808) :
    Calls Try.prog 93 #[.int .u64 m] w fun e w' => e = .returned (.int .u64 ((m * m / 4611686018427387904 : Nat) : Int)) ∧ Below w.heap.size w w' := by
  have hzN := zeroN
  have bq : m * m < 85070591730234615865843651857942052864 := by
    have : m * m ≤ 9223372036854775807 * 9223372036854775807 := Nat.mul_le_mul (by omega) (by omega)
    omega
  have K := Lib.hid bq
  have C : Hid (∀ w : World, Calls Try.prog 19 #[.int .i64 m, .int .i64 m] w fun e w' => e = .returned (.agg (numA false (m * m))) ∧ Below w.heap.size w w') := Lib.hid (fun w => by
    have h := Mul_any (m : Int) (m : Int) w (by omega) (by omega) (by omega) (by omega)
    rw [show ((m : Int) * (m : Int)) = ((m * m : Nat) : Int) by simp] at h
    unfold numI at h
    rw [decide_eq_false (by omega), Int.natAbs_natCast] at h
    exact h)
  clear bq
  have hm1 : (m : Int) ≤ 9223372036854775807 := by omega
  clear hm
  go_enter Try.func93, Try.ntmps93
  go_wp2_with fail
  refine (C.out _).mono ?_; rintro e w1 ⟨rfl, k1⟩; dsimp only
  generalize hq : m * m = q at *
  have HQ := Lib.hid hq
  clear hq
  have h3 := Has.new w1 (numA false q) 33
  replace k1 := k1.alloc k1.size (.cells (numA false q) 33)
  go_wp2_with (first | ((with_reducible refine wl_at_store 33 ?_); refine wl_store_new rfl 33 _ _ rfl _ _ rfl rfl (by first | (with_reducible exact rfl) | simp only [World.size_alloc]) infoN (numA_size _ _) (numA_size _ _) (numA_ones _ _) rfl ?_) | ((with_reducible refine wl_at_load 33 ?_); refine wl_load rfl 33 _ rfl _ rfl h3 Try.underlying33 rfl infoN (numA_size _ _) ?_))
  refine (shifted_any false q 62 _ (by have := K.out; omega) (by omega)).mono ?_; rintro e w2 ⟨rfl, k2⟩; dsimp only
  replace k2 := below_step k1 k2 k1.size
  go_wp2
  go_ret
  refine ⟨?_, k2⟩
  have e : q / 2 ^ 62 % 18446744073709551616 = m * m / 4611686018427387904 := by
    rw [HQ.out]
    rw [show (2 : Nat) ^ 62 = 4611686018427387904 by rfl]
    exact Nat.mod_eq_of_lt (by have := K.out; omega)
  rw [← e]; rfl

theorem log2_more {x : Nat} (h0 : x ≠ 0) (k : Nat) : 1 < x / 2 ^ k ↔ k < Nat.log2 x := by
  have h := Nat.le_log2 (k := k + 1) h0
  rw [Nat.pow_succ] at h
  have := Nat.le_div_iff_mul_le (x := 2) (y := x) (Nat.two_pow_pos k)
  rw [Nat.mul_comm] at this
  omega
/-- What is doubled till it has 62 bits behind the point. -/
def mbase (x : Nat) : Nat := if Nat.log2 x = 63 then x / 2 else x
theorem mbase_bd (x j : Nat) (h0 : x ≠ 0) (h : x < 2 ^ 64) (h1 : Nat.log2 x ≤ j) (h2 : j ≤ 62) : mbase x * 2 ^ (j - Nat.log2 x) < 2 ^ (j + 1) := by
  have hl : x < 2 ^ (Nat.log2 x + 1) := Nat.lt_log2_self
  unfold mbase
  rw [if_neg (by omega)]
  have e : 2 ^ (j + 1) = 2 ^ (Nat.log2 x + 1) * 2 ^ (j - Nat.log2 x) := by rw [← Nat.pow_add]; congr 1; omega
  rw [e]
  exact Nat.mul_lt_mul_of_pos_right hl (Nat.two_pow_pos _)
theorem mbase_end (x : Nat) (h0 : x ≠ 0) (h : x < 2 ^ 64) : mbase x * 2 ^ (max (Nat.log2 x) 62 - Nat.log2 x) = mant x := by
  have h3 : Nat.log2 x < 64 := (Nat.log2_lt h0).2 h
  unfold mbase mant
  by_cases hl : Nat.log2 x = 63
  · rw [if_pos hl, hl]; simp
  · rw [if_neg hl, Nat.max_eq_right (by omega), show 63 - Nat.log2 x = (62 - Nat.log2 x) + 1 by omega, Nat.pow_succ, ← Nat.mul_assoc, Nat.mul_div_cancel _ (by omega)]

theorem RLog_none (w : World) : Calls Try.prog 78 #[.int .u64 0] w fun e w' => e = .returned (.tuple #[.int .i64 0, .int .i64 2]) ∧ w = w' := by
  go_enter Try.func78, Try.ntmps78
  go_wp2
  go_ret2
  exact ⟨rfl, rfl⟩

set_option maxHeartbeats 4000000 in
set_option maxRecDepth 100000 in
theorem RLog_some (x : Nat) (w : World) (hx0 : x ≠ 0) (h1 : x < 18446744073709551616) :
    Calls Try.prog 78 #[.int .u64 x] w fun e w' => e = .returned (.tuple #[.int .i64 (lg x), .int .i64 0]) ∧ Below w.heap.size w w' := by
  have h63 : Nat.log2 x ≤ 63 := by have := (Nat.log2_lt hx0).2 (show x < 2 ^ 64 by omega); omega
  have R := Lib.hid (lgRun_at (lg_start x hx0 (by omega)))
  have em : Hid (lg x = (lgRun 16 (Nat.log2 x, mant x)).1) := Lib.hid rfl
  have hmore := Lib.hid (log2_more hx0)
  have hend := Lib.hid (mbase_end x hx0 (by omega))
  have hmbd := Lib.hid (fun j => mbase_bd x j hx0 (show x < 2 ^ 64 by omega))
  have hmb : Hid (mbase x = if Nat.log2 x = 63 then x / 2 else x) := Lib.hid rfl
  have hx : ((x : Int) == 0) = false := by simpa using hx0
  have HX := Lib.hid h1
  obtain ⟨L, hL⟩ : ∃ L, L = Nat.log2 x := ⟨_, rfl⟩
  rw [← hL] at h63 R em hmore hend hmbd hmb
  generalize mant x = m0 at *
  generalize mbase x = mb at *
  clear hL hx0 h1
  go_enter Try.func78, Try.ntmps78
  go_wp2
  go_loop [4, 5] (fun n y => ∃ k : Nat, k ≤ L ∧ n = .int .i64 k ∧ y = .int .u64 ((x / 2 ^ k : Nat) : Int)) (fun n _ => 64 - (intOf n).toNat)
  case atStart => exact ⟨0, by omega, rfl, by simp⟩
  case round =>
    obtain ⟨k, hk, rfl, rfl⟩ := hrel
    have hs : Hid (x / 2 ^ k / 2 = x / 2 ^ (k + 1)) := Lib.hid (by rw [Nat.div_div_eq_div_mul, Nat.pow_succ])
    have hm := hmore.out k
    by_cases hlt : k < L
    · have T : decide ((1 : Int) < ((x / 2 ^ k : Nat) : Int)) = true := decide_eq_true (by omega)
      have hy : x / 2 ^ k < 18446744073709551616 := Nat.lt_of_le_of_lt (Nat.div_le_self _ _) HX.out
      generalize x / 2 ^ k = y at *
      have ey : IntKind.u64.wrap ((y : Int) / 2) = ((y / 2 : Nat) : Int) := by rw [IntWalk.u64_in _ (by omega)]; omega
      clear hm hy
      go_wp2
      refine ⟨⟨k + 1, by omega, by go_num, by rw [← hs.out]; first | rfl | go_num⟩, by simp [intOf]; omega⟩
    · obtain rfl : k = L := by omega
      have T : decide ((1 : Int) < ((x / 2 ^ k : Nat) : Int)) = false := decide_eq_false (by omega)
      generalize x / 2 ^ k = y at *
      clear hm hs hmore
      by_cases hL : k = 63
      · have T2 : ((k : Int) == 63) = true := by rw [hL]; rfl
        have Hmb : Hid (mb = x / 2) := Lib.hid (by rw [hmb.out, if_pos hL])
        have ex2 : IntKind.u64.wrap ((x : Int) / 2) = ((x / 2 : Nat) : Int) := by have := HX.out; rw [IntWalk.u64_in _ (by omega)]; omega
        clear hL hmb
        go_wp2
        go_loop [6, 7] (fun m i => ∃ j : Nat, k ≤ j ∧ j ≤ max k 62 ∧ i = .int .i64 j ∧ m = .int .u64 ((mb * 2 ^ (j - k) : Nat) : Int)) (fun _ i => 64 - (intOf i).toNat)
        case atStart => exact ⟨k, by omega, by omega, rfl, by rw [Nat.sub_self, Nat.pow_zero, Nat.mul_one, Hmb.out]; first | rfl | go_num⟩
        case round =>
          obtain ⟨j, hj1, hj2, rfl, rfl⟩ := hrel
          by_cases hj : j < 62
          · have hb := hmbd.out j hj1 (by omega)
            have hs : Hid (2 * (mb * 2 ^ (j - k)) = mb * 2 ^ (j + 1 - k)) := Lib.hid (by rw [show j + 1 - k = (j - k) + 1 by omega, Nat.pow_succ, ← Nat.mul_assoc mb]; omega)
            have hp : 2 ^ (j + 1) ≤ 2 ^ 62 := Nat.pow_le_pow_right (by omega) (by omega)
            generalize mb * 2 ^ (j - k) = m at *
            have ey : IntKind.u64.wrap (2 * (m : Int)) = ((2 * m : Nat) : Int) := by rw [IntWalk.u64_in _ (by omega)]; omega
            clear hb hp
            go_wp2
            refine ⟨⟨j + 1, by omega, by omega, by go_num, by rw [← hs.out]; first | rfl | go_num⟩, by simp [intOf]; omega⟩
          · have hm0 : Hid (mb * 2 ^ (j - k) = m0) := Lib.hid (by rw [← hend.out, show j = max k 62 by omega])
            rw [hm0.out]
            clear hm0 hj1 hj2 hmbd hend
            go_wp2
            go_loopw [6, 8, 9] (fun m o i wr => ∃ r : Nat, r ≤ 16 ∧ i = .int .i64 r ∧ m = .int .u64 (lgRun r (k, m0)).2 ∧ o = .int .i64 (lgRun r (k, m0)).1 ∧ Below w.heap.size w wr) (fun _ _ i _ => 16 - (intOf i).toNat)
            case atStart => exact ⟨0, by omega, rfl, rfl, rfl, Below.refl _ _⟩
            case round =>
              obtain ⟨r, hr, rfl, rfl, rfl, g⟩ := hrel
              by_cases hlt : r < 16
              · have A := R.out r
                have hs : lgRun (r + 1) (k, m0) = lgStep (lgRun r (k, m0)) := rfl
                generalize lgRun r (k, m0) = p at *
                obtain ⟨o, m⟩ := p
                obtain ⟨-, a2, a3, a4⟩ := A
                simp only [] at a2 a3 a4
                have bo : o < 4194304 := by
                  have e1 : (k + 1) * 2 ^ r ≤ 64 * 2 ^ r := Nat.mul_le_mul_right _ (by omega)
                  have e2 : 2 ^ r ≤ 2 ^ 16 := Nat.pow_le_pow_right (by omega) (by omega)
                  omega
                have bs := sq_bd a3 a4
                have A4 := Lib.hid a4
                obtain ⟨s, hs2⟩ : ∃ s, s = m * m / 4611686018427387904 := ⟨_, rfl⟩
                rw [← hs2] at bs
                have HS := Lib.hid (show lgRun (r + 1) (k, m0) = if 9223372036854775808 ≤ s then (2 * o + 1, s / 2) else (2 * o, s) by rw [hs, lgStep]; simp only [← hs2])
                have C : Hid (∀ w : World, Calls Try.prog 93 #[.int .u64 m] w fun e w' => e = .returned (.int .u64 s) ∧ Below w.heap.size w w') := Lib.hid (fun w => by rw [hs2]; exact square_any m w a4)
                have es : IntKind.u64.wrap ((s : Int) / 2) = ((s / 2 : Nat) : Int) := by rw [IntWalk.u64_in _ (by omega)]; omega
                clear hs a2 hs2 a3 a4
                by_cases hge : 9223372036854775808 ≤ s
                · have P : decide ((9223372036854775808 : Int) ≤ (s : Int)) = true := decide_eq_true (by omega)
                  rw [if_pos hge] at HS
                  clear hge bs
                  go_wp2_with fail
                  refine (C.out _).mono ?_; rintro e w1 ⟨rfl, k1⟩; dsimp only
                  replace g := below_step g k1 g.size
                  go_wp2
                  refine ⟨⟨r + 1, by omega, by go_num, by rw [HS.out]; first | rfl | go_num, by rw [HS.out]; first | rfl | go_num, g⟩, by simp [intOf]; omega⟩
                · have P : decide ((9223372036854775808 : Int) ≤ (s : Int)) = false := decide_eq_false (by omega)
                  rw [if_neg hge] at HS
                  clear hge bs
                  go_wp2_with fail
                  refine (C.out _).mono ?_; rintro e w1 ⟨rfl, k1⟩; dsimp only
                  replace g := below_step g k1 g.size
                  go_wp2
                  refine ⟨⟨r + 1, by omega, by go_num, by rw [HS.out], by rw [HS.out]; simp only []; go_num, g⟩, by simp [intOf]; omega⟩
              · have hk9 : Hid (r = 16) := Lib.hid (by omega)
                go_wp2
                go_ret2
                exact ⟨by rw [em.out, hk9.out]; rfl, g⟩
      · have T2 : ((k : Int) == 63) = false := by simp; omega
        have Hmb : Hid (mb = x) := Lib.hid (by rw [hmb.out, if_neg hL])
        clear hL hmb
        go_wp2
        go_loop [6, 7] (fun m i => ∃ j : Nat, k ≤ j ∧ j ≤ max k 62 ∧ i = .int .i64 j ∧ m = .int .u64 ((mb * 2 ^ (j - k) : Nat) : Int)) (fun _ i => 64 - (intOf i).toNat)
        case atStart => exact ⟨k, by omega, by omega, rfl, by rw [Nat.sub_self, Nat.pow_zero, Nat.mul_one, Hmb.out]⟩
        case round =>
          obtain ⟨j, hj1, hj2, rfl, rfl⟩ := hrel
          by_cases hj : j < 62
          · have hb := hmbd.out j hj1 (by omega)
            have hs : Hid (2 * (mb * 2 ^ (j - k)) = mb * 2 ^ (j + 1 - k)) := Lib.hid (by rw [show j + 1 - k = (j - k) + 1 by omega, Nat.pow_succ, ← Nat.mul_assoc mb]; omega)
            have hp : 2 ^ (j + 1) ≤ 2 ^ 62 := Nat.pow_le_pow_right (by omega) (by omega)
            generalize mb * 2 ^ (j - k) = m at *
            have ey : IntKind.u64.wrap (2 * (m : Int)) = ((2 * m : Nat) : Int) := by rw [IntWalk.u64_in _ (by omega)]; omega
            clear hb hp
            go_wp2
            refine ⟨⟨j + 1, by omega, by omega, by go_num, by rw [← hs.out]; first | rfl | go_num⟩, by simp [intOf]; omega⟩
          · have hm0 : Hid (mb * 2 ^ (j - k) = m0) := Lib.hid (by rw [← hend.out, show j = max k 62 by omega])
            rw [hm0.out]
            clear hm0 hj1 hj2 hmbd hend
            go_wp2
            go_loopw [6, 8, 9] (fun m o i wr => ∃ r : Nat, r ≤ 16 ∧ i = .int .i64 r ∧ m = .int .u64 (lgRun r (k, m0)).2 ∧ o = .int .i64 (lgRun r (k, m0)).1 ∧ Below w.heap.size w wr) (fun _ _ i _ => 16 - (intOf i).toNat)
            case atStart => exact ⟨0, by omega, rfl, rfl, rfl, Below.refl _ _⟩
            case round =>
              obtain ⟨r, hr, rfl, rfl, rfl, g⟩ := hrel
              by_cases hlt : r < 16
              · have A := R.out r
                have hs : lgRun (r + 1) (k, m0) = lgStep (lgRun r (k, m0)) := rfl
                generalize lgRun r (k, m0) = p at *
                obtain ⟨o, m⟩ := p
                obtain ⟨-, a2, a3, a4⟩ := A
                simp only [] at a2 a3 a4
                have bo : o < 4194304 := by
                  have e1 : (k + 1) * 2 ^ r ≤ 64 * 2 ^ r := Nat.mul_le_mul_right _ (by omega)
                  have e2 : 2 ^ r ≤ 2 ^ 16 := Nat.pow_le_pow_right (by omega) (by omega)
                  omega
                have bs := sq_bd a3 a4
                have A4 := Lib.hid a4
                obtain ⟨s, hs2⟩ : ∃ s, s = m * m / 4611686018427387904 := ⟨_, rfl⟩
                rw [← hs2] at bs
                have HS := Lib.hid (show lgRun (r + 1) (k, m0) = if 9223372036854775808 ≤ s then (2 * o + 1, s / 2) else (2 * o, s) by rw [hs, lgStep]; simp only [← hs2])
                have C : Hid (∀ w : World, Calls Try.prog 93 #[.int .u64 m] w fun e w' => e = .returned (.int .u64 s) ∧ Below w.heap.size w w') := Lib.hid (fun w => by rw [hs2]; exact square_any m w a4)
                have es : IntKind.u64.wrap ((s : Int) / 2) = ((s / 2 : Nat) : Int) := by rw [IntWalk.u64_in _ (by omega)]; omega
                clear hs a2 hs2 a3 a4
                by_cases hge : 9223372036854775808 ≤ s
                · have P : decide ((9223372036854775808 : Int) ≤ (s : Int)) = true := decide_eq_true (by omega)
                  rw [if_pos hge] at HS
                  clear hge bs
                  go_wp2_with fail
                  refine (C.out _).mono ?_; rintro e w1 ⟨rfl, k1⟩; dsimp only
                  replace g := below_step g k1 g.size
                  go_wp2
                  refine ⟨⟨r + 1, by omega, by go_num, by rw [HS.out]; first | rfl | go_num, by rw [HS.out]; first | rfl | go_num, g⟩, by simp [intOf]; omega⟩
                · have P : decide ((9223372036854775808 : Int) ≤ (s : Int)) = false := decide_eq_false (by omega)
                  rw [if_neg hge] at HS
                  clear hge bs
                  go_wp2_with fail
                  refine (C.out _).mono ?_; rintro e w1 ⟨rfl, k1⟩; dsimp only
                  replace g := below_step g k1 g.size
                  go_wp2
                  refine ⟨⟨r + 1, by omega, by go_num, by rw [HS.out], by rw [HS.out]; simp only []; go_num, g⟩, by simp [intOf]; omega⟩
              · have hk9 : Hid (r = 16) := Lib.hid (by omega)
                go_wp2
                go_ret2
                exact ⟨by rw [em.out, hk9.out]; rfl, g⟩
end Go.Proofs.Ytnphpnkfdnnmbaa
