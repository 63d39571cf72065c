/-
  The walk of the program's arcs.
-/
import Derived.Test.YtnphpnkfdnnmbaaSc31
import Derived.Test.YtnphpnkfdnnmbaaPu31
import Derived.Test.YtnphpnkfdnnmbaaAt03
import Derived.Test.YtnphpnkfdnnmbaaRq
import Derived.Lib.MinMax
namespace Go.Proofs.Ytnphpnkfdnnmbaa
open Go.RowKit
attribute [local irreducible] wpHeld wpList
set_option linter.unusedVariables false
theorem divM_gain (x : Int) (h0 : 0 ≤ x) (h1 : x ≤ 35184372088832) : divM (x * 652032874) 1073741824 2 = ((x * 652032874 + 536870912) / 1073741824, 0) := by
  have e : (2 * (x * 652032874) + 1073741824) / (2 * 1073741824) = (x * 652032874 + 536870912) / 1073741824 := by omega
  rw [divM_near (by decide) (by rw [e]; omega) (by rw [e]; omega), e]
/-- Scaled so far. -/
def sclAt (A B : Int) (k : Nat) : Prop := k ≤ 40 ∧ k + sclF (40 - k) (mag A B * 2 ^ k) = sclF 40 (mag A B)
theorem mag_mul (A B : Int) (k : Nat) : mag (A * 2 ^ k) (B * 2 ^ k) = mag A B * 2 ^ k := by
  have h2 : (0 : Int) ≤ 2 ^ k := Int.le_of_lt (Int.pow_pos (by omega))
  unfold mag
  generalize (2 : Int) ^ k = P at *
  rcases Int.le_total A (max B (-B)) with h | h
  · have e := Int.mul_le_mul_of_nonneg_right h h2
    rw [Int.max_eq_right h]
    rcases Int.le_total B (-B) with h3 | h3
    · have e3 := Int.mul_le_mul_of_nonneg_right h3 h2
      rw [Int.max_eq_right h3] at *
      rw [Int.neg_mul] at *
      omega
    · have e3 := Int.mul_le_mul_of_nonneg_right h3 h2
      rw [Int.max_eq_left h3] at *
      rw [Int.neg_mul] at *
      omega
  · have e := Int.mul_le_mul_of_nonneg_right h h2
    rw [Int.max_eq_left h]
    rcases Int.le_total B (-B) with h3 | h3
    · have e3 := Int.mul_le_mul_of_nonneg_right h3 h2
      rw [Int.max_eq_right h3] at *
      rw [Int.neg_mul] at *
      omega
    · have e3 := Int.mul_le_mul_of_nonneg_right h3 h2
      rw [Int.max_eq_left h3] at *
      rw [Int.neg_mul] at *
      omega
theorem sclAt_stop {A B : Int} {k : Nat} (h : sclAt A B k) (hm : 1099511627776 ≤ mag (A * 2 ^ k) (B * 2 ^ k)) : k = sclF 40 (mag A B) := by
  obtain ⟨h1, h2⟩ := h
  rw [mag_mul] at hm
  rw [sclF_stop _ _ hm] at h2
  omega
theorem sclAt_next {A B : Int} {k : Nat} (hA : 1 ≤ mag A B) (h : sclAt A B k) (hm : mag (A * 2 ^ k) (B * 2 ^ k) < 1099511627776) : k < 40 ∧ sclAt A B (k + 1) := by
  obtain ⟨h1, h2⟩ := h
  rw [mag_mul] at hm
  have hk : k < 40 := by
    by_cases e : k = 40
    · subst e
      omega
    · omega
  refine ⟨hk, by omega, ?_⟩
  rw [show 40 - k = (40 - (k + 1)) + 1 by omega, sclF_go _ _ hm] at h2
  rw [Int.pow_succ, ← Int.mul_assoc, Int.mul_comm _ 2]
  omega
theorem cut40_bd (x : Int) : -1099511627776 ≤ cut40 x ∧ cut40 x ≤ 1099511627776 := by unfold cut40; split <;> (try split) <;> omega
theorem run_max3 (x y z m : Int) (h : max x (max y z) = m) (ts : Array TypeId) (t : TypeId) (w : World) : (Builtin.max_ ts t #[.int .i64 x, .int .i64 y, .int .i64 z]).run Try.prog w = .ok (.int .i64 m) w := by
  have e : (if z > (if y > x then y else x) then z else (if y > x then y else x)) = m := by
    rw [← h]
    split <;> split <;> omega
  simp [Builtin.max_, Builtin.max2, ← e]
theorem cut40_eq (x : Int) : max (-1099511627776) (min x 1099511627776) = cut40 x := by unfold cut40; split <;> (try split) <;> omega
set_option maxRecDepth 100000 in
set_option maxHeartbeats 4000000 in
theorem Arc_pos (x y A B : Int) (w : World) (hx : cut40 x = A) (hy : cut40 y = B) (hA : 0 ≤ A) (hM : mag A B ≤ 1099511627776) (hM1 : 1 ≤ mag A B) (t0 : (A == 0) = false) :
    Calls Try.prog 16 #[.int .i64 x, .int .i64 y] w fun e w' => e = .returned (.tuple #[.int .u32 (arcZ 0 A B), .int .i64 (prt (arcR A B) (sclF 40 (mag A B)))]) ∧ Below w.heap.size w w' := by
  have t1 : decide (A < 0) = false := decide_eq_false (by omega)
  have K := St.start w
  have m1 := cut40_eq x
  have m2 := cut40_eq y
  rw [hx] at m1
  rw [hy] at m2
  clear hx hy
  have tm := Lib.hid (And.intro hM1 hM)
  have hA' := Lib.hid hA
  have A1 := Lib.hid arcs_any
  have HI := Lib.hid arcV_index
  generalize arcV = arr at *
  clear hM hM1 hA
  go_enter Try.func16, Try.ntmps16
  go_wp2
  go_step3
  go_wp2
  go_step3
  go_wp2
  go_loop [0, 1, 7] (fun x y n => ∃ k : Nat, sclAt A B k ∧ n = .int .i64 k ∧ x = .int .i64 (A * 2 ^ k) ∧ y = .int .i64 (B * 2 ^ k)) (fun _ _ n => 40 - (intOf n).toNat)
  case atStart => exact ⟨0, ⟨by omega, by simp⟩, rfl, by simp, by simp⟩
  case round =>
    obtain ⟨k, hk, rfl, rfl, rfl⟩ := hrel
    have hmm := mag_mul A B k
    by_cases hlt : mag (A * 2 ^ k) (B * 2 ^ k) < 1099511627776
    · have hn := Lib.hid (sclAt_next tm.out.1 hk hlt)
      have e1 : Hid (A * 2 ^ (k + 1) = 2 * (A * 2 ^ k)) := Lib.hid (by rw [Int.pow_succ, ← Int.mul_assoc, Int.mul_comm _ 2])
      have e2 : Hid (B * 2 ^ (k + 1) = 2 * (B * 2 ^ k)) := Lib.hid (by rw [Int.pow_succ, ← Int.mul_assoc, Int.mul_comm _ 2])
      have hX : 0 ≤ A * 2 ^ k := Int.mul_nonneg hA'.out (Int.le_of_lt (Int.pow_pos (by omega)))
      have hk1 := Lib.hid hk
      have hk40 := hn.out.1
      clear hk hmm
      generalize A * 2 ^ k = X at *
      generalize B * 2 ^ k = Y at *
      have hb : X < 1099511627776 ∧ Y < 1099511627776 ∧ -Y < 1099511627776 := by unfold mag at hlt; omega
      have m5 := run_max3 X Y (-Y) _ rfl
      have t5 : decide (1099511627776 ≤ max X (max Y (-Y))) = false := decide_eq_false (by omega)
      generalize max X (max Y (-Y)) = M at *
      clear hlt
      go_wp2
      exact ⟨⟨k + 1, hn.out.2, by go_num, by rw [e1.out], by rw [e2.out]⟩, by simp [intOf]; omega⟩
    · have hge : 1099511627776 ≤ mag (A * 2 ^ k) (B * 2 ^ k) := by omega
      have hX : 0 ≤ A * 2 ^ k := Int.mul_nonneg hA'.out (Int.le_of_lt (Int.pow_pos (by omega)))
      obtain ⟨S, hS⟩ : ∃ S, S = sclF 40 (mag A B) := ⟨_, rfl⟩
      obtain rfl : k = S := by rw [hS]; exact sclAt_stop hk hge
      have hSl : k ≤ 40 := hk.1
      have hst := arc_start hA'.out tm.out.2
      have hpx := arcP_bd hA'.out tm.out.2
      have hpr := arcR_bd hA'.out tm.out.2
      have hzz := stqs_z ⟨A * 2 ^ k, B * 2 ^ k, 0⟩ 30
      have eR : arcR A B = ((arcP A B).x * 652032874 + 536870912) / 1073741824 := rfl
      have eP : arcP A B = stqs ⟨A * 2 ^ k, B * 2 ^ k, 0⟩ 30 := by unfold arcP; rw [← hS]
      have eZ : arcZ 0 A B = (0 + (arcP A B).z) % 4294967296 := rfl
      have MD := Lib.hid (fun w => MulDiv_any (arcP A B).x 652032874 1073741824 2 w (by omega) (by omega) (by omega) (by omega) (by omega) (by omega))
      rw [divM_gain _ hpx.1 hpx.2, ← eR] at MD
      have SH := Lib.hid (fun w => shr_any (arcR A B) k w (by omega) hSl)
      have HE := Lib.hid (And.intro hS eZ)
      have HP := Lib.hid eP
      rw [eP] at MD
      have bM : -(bnd 0) ≤ A * 2 ^ k ∧ A * 2 ^ k ≤ bnd 0 ∧ -(bnd 0) ≤ B * 2 ^ k ∧ B * 2 ^ k ≤ bnd 0 := by
        rw [← hS] at hst
        exact hst
      clear eZ hst hpx hpr hk hmm hS hlt
      have e0 : bnd 0 = 2199023255552 := rfl
      rw [e0] at bM
      obtain ⟨R, hR⟩ : ∃ R, R = arcR A B := ⟨_, rfl⟩
      rw [← hR] at MD SH
      have HR := Lib.hid hR
      clear hR eR eP
      generalize A * 2 ^ k = X at *
      generalize B * 2 ^ k = Y at *
      have m5 := run_max3 X Y (-Y) _ rfl
      have t5 : decide (1099511627776 ≤ max X (max Y (-Y))) = true := decide_eq_true hge
      generalize max X (max Y (-Y)) = M at *
      clear hge
      obtain ⟨p0, hp0⟩ : ∃ p0 : Pt, p0 = ⟨X, Y, 0⟩ := ⟨_, rfl⟩
      have B0 := Lib.hid (show Bd (bnd 0) p0 by rw [hp0]; exact bM)
      have Z0 := Lib.hid (show p0.z = 0 by rw [hp0])
      have C0 := Lib.hid (show (stqs p0 0).x = X ∧ (stqs p0 0).y = Y ∧ (stqs p0 0).z = 0 by rw [hp0]; exact ⟨rfl, rfl, rfl⟩)
      rw [← hp0] at HP MD hzz
      clear hp0
      go_wp2_with (first | (go_at_call 46; (with_reducible refine (A1.out _).mono ?_); rintro e w2 ⟨rfl, k1⟩; replace K := K.step k1; clear k1; (try clear ww); revert w2; intro ww K))
      go_loopw [0, 1, 8, 47] (fun x y z i wr => ∃ k : Nat, k ≤ 30 ∧ i = .int .i64 k ∧ x = .int .i64 (stqs p0 k).x ∧ y = .int .i64 (stqs p0 k).y ∧ z = .int .i64 (stqs p0 k).z ∧ St w.heap.size w [] Any wr) (fun _ _ _ i _ => 30 - (intOf i).toNat)
      case atStart => exact ⟨0, by omega, rfl, by rw [C0.out.1], by rw [C0.out.2.1], by rw [C0.out.2.2], K⟩
      case round =>
        clear K
        obtain ⟨j, hj, rfl, rfl, rfl, rfl, K⟩ := hrel
        by_cases hlt : j < 30
        · have ht : decide ((j : Int) < 30) = true := decide_eq_true (by omega)
          have hs : Hid (stqs p0 (j + 1) = stq j (stqs p0 j)) := Lib.hid rfl
          have hb := stqs_bd _ B0.out j hj
          have hB := bnd_le j hj
          have hz := stqs_z p0 j
          rw [Z0.out] at hz
          generalize stqs p0 j = p at *
          obtain ⟨x, y, z⟩ := p
          unfold Bd at hb
          dsimp only at hb hz
          have hx1 : -35184372088832 ≤ x ∧ x ≤ 35184372088832 := by omega
          have hy1 : -35184372088832 ≤ y ∧ y ≤ 35184372088832 := by omega
          have hz1 : -17179869184 ≤ z ∧ z ≤ 18253611008 := by omega
          have ba := arcA_bd j
          have bx := prt_le j hx1.1 hx1.2
          have by' := prt_le j hy1.1 hy1.2
          have P1 := Lib.hid (fun w => shr_any x j w (by omega) (by omega))
          have P2 := Lib.hid (fun w => shr_any y j w (by omega) (by omega))
          have I1 := fun w => HI.out j hlt w
          unfold stq at hs
          dsimp only at hs
          generalize prt x j = px at *
          generalize prt y j = py at *
          generalize arcA j = ar at *
          clear hb hB hz t5 m5 bM hzz
          by_cases hneg : 0 < y
          · rw [if_pos hneg] at hs
            go_wp2_with (first | (go_at_call 47; (with_reducible refine (P2.out _).mono ?_); rintro e w2 ⟨rfl, rfl⟩; (try dsimp only)) | (go_at_call 47; (with_reducible refine (P1.out _).mono ?_); rintro e w2 ⟨rfl, rfl⟩; (try dsimp only)))
            exact ⟨⟨j + 1, by omega, by go_num, by rw [hs.out], by rw [hs.out], by rw [hs.out], K⟩, by simp [intOf]; omega⟩
          · rw [if_neg hneg] at hs
            have tz : decide (0 < y) = false := decide_eq_false hneg
            go_wp2_with (first | (go_at_call 47; (with_reducible refine (P2.out _).mono ?_); rintro e w2 ⟨rfl, rfl⟩; (try dsimp only)) | (go_at_call 47; (with_reducible refine (P1.out _).mono ?_); rintro e w2 ⟨rfl, rfl⟩; (try dsimp only)))
            exact ⟨⟨j + 1, by omega, by go_num, by rw [hs.out], by rw [hs.out], by rw [hs.out], K⟩, by simp [intOf]; omega⟩
        · obtain rfl : j = 30 := by omega
          clear t5 m5 bM
          rw [Z0.out] at hzz
          go_wp2_with (first | (go_at_call 50; (with_reducible refine (MD.out _).mono ?_); rintro e w2 ⟨rfl, k1⟩; replace K := K.step k1; clear k1; (try clear ww); revert w2; intro ww K) | (go_at_call 47; (with_reducible refine (SH.out _).mono ?_); rintro e w2 ⟨rfl, rfl⟩; (try dsimp only)))
          rw [Exit.noGoto_ret]
          go_ret2
          exact ⟨ret_tup2 (v_int (by rw [HE.out.2, HP.out] <;> (first | rfl | omega))) (v_int (by rw [← HE.out.1, ← HR.out])), K.below⟩
set_option maxRecDepth 100000 in
set_option maxHeartbeats 4000000 in
theorem Arc_nil (x y A B : Int) (w : World) (hx : cut40 x = A) (hy : cut40 y = B) (hA : 0 ≤ A) (hM : mag A B ≤ 1099511627776) (hM1 : 1 ≤ mag A B) (t0 : (A == 0) = true) (t2 : (B == 0) = false) :
    Calls Try.prog 16 #[.int .i64 x, .int .i64 y] w fun e w' => e = .returned (.tuple #[.int .u32 (arcZ 0 A B), .int .i64 (prt (arcR A B) (sclF 40 (mag A B)))]) ∧ Below w.heap.size w w' := by
  have t1 : decide (A < 0) = false := decide_eq_false (by omega)
  have K := St.start w
  have m1 := cut40_eq x
  have m2 := cut40_eq y
  rw [hx] at m1
  rw [hy] at m2
  clear hx hy
  have tm := Lib.hid (And.intro hM1 hM)
  have hA' := Lib.hid hA
  have A1 := Lib.hid arcs_any
  have HI := Lib.hid arcV_index
  generalize arcV = arr at *
  clear hM hM1 hA
  go_enter Try.func16, Try.ntmps16
  go_wp2
  go_step3
  go_wp2
  go_step3
  go_wp2
  go_loop [0, 1, 7] (fun x y n => ∃ k : Nat, sclAt A B k ∧ n = .int .i64 k ∧ x = .int .i64 (A * 2 ^ k) ∧ y = .int .i64 (B * 2 ^ k)) (fun _ _ n => 40 - (intOf n).toNat)
  case atStart => exact ⟨0, ⟨by omega, by simp⟩, rfl, by simp, by simp⟩
  case round =>
    obtain ⟨k, hk, rfl, rfl, rfl⟩ := hrel
    have hmm := mag_mul A B k
    by_cases hlt : mag (A * 2 ^ k) (B * 2 ^ k) < 1099511627776
    · have hn := Lib.hid (sclAt_next tm.out.1 hk hlt)
      have e1 : Hid (A * 2 ^ (k + 1) = 2 * (A * 2 ^ k)) := Lib.hid (by rw [Int.pow_succ, ← Int.mul_assoc, Int.mul_comm _ 2])
      have e2 : Hid (B * 2 ^ (k + 1) = 2 * (B * 2 ^ k)) := Lib.hid (by rw [Int.pow_succ, ← Int.mul_assoc, Int.mul_comm _ 2])
      have hX : 0 ≤ A * 2 ^ k := Int.mul_nonneg hA'.out (Int.le_of_lt (Int.pow_pos (by omega)))
      have hk1 := Lib.hid hk
      have hk40 := hn.out.1
      clear hk hmm
      generalize A * 2 ^ k = X at *
      generalize B * 2 ^ k = Y at *
      have hb : X < 1099511627776 ∧ Y < 1099511627776 ∧ -Y < 1099511627776 := by unfold mag at hlt; omega
      have m5 := run_max3 X Y (-Y) _ rfl
      have t5 : decide (1099511627776 ≤ max X (max Y (-Y))) = false := decide_eq_false (by omega)
      generalize max X (max Y (-Y)) = M at *
      clear hlt
      go_wp2
      exact ⟨⟨k + 1, hn.out.2, by go_num, by rw [e1.out], by rw [e2.out]⟩, by simp [intOf]; omega⟩
    · have hge : 1099511627776 ≤ mag (A * 2 ^ k) (B * 2 ^ k) := by omega
      have hX : 0 ≤ A * 2 ^ k := Int.mul_nonneg hA'.out (Int.le_of_lt (Int.pow_pos (by omega)))
      obtain ⟨S, hS⟩ : ∃ S, S = sclF 40 (mag A B) := ⟨_, rfl⟩
      obtain rfl : k = S := by rw [hS]; exact sclAt_stop hk hge
      have hSl : k ≤ 40 := hk.1
      have hst := arc_start hA'.out tm.out.2
      have hpx := arcP_bd hA'.out tm.out.2
      have hpr := arcR_bd hA'.out tm.out.2
      have hzz := stqs_z ⟨A * 2 ^ k, B * 2 ^ k, 0⟩ 30
      have eR : arcR A B = ((arcP A B).x * 652032874 + 536870912) / 1073741824 := rfl
      have eP : arcP A B = stqs ⟨A * 2 ^ k, B * 2 ^ k, 0⟩ 30 := by unfold arcP; rw [← hS]
      have eZ : arcZ 0 A B = (0 + (arcP A B).z) % 4294967296 := rfl
      have MD := Lib.hid (fun w => MulDiv_any (arcP A B).x 652032874 1073741824 2 w (by omega) (by omega) (by omega) (by omega) (by omega) (by omega))
      rw [divM_gain _ hpx.1 hpx.2, ← eR] at MD
      have SH := Lib.hid (fun w => shr_any (arcR A B) k w (by omega) hSl)
      have HE := Lib.hid (And.intro hS eZ)
      have HP := Lib.hid eP
      rw [eP] at MD
      have bM : -(bnd 0) ≤ A * 2 ^ k ∧ A * 2 ^ k ≤ bnd 0 ∧ -(bnd 0) ≤ B * 2 ^ k ∧ B * 2 ^ k ≤ bnd 0 := by
        rw [← hS] at hst
        exact hst
      clear eZ hst hpx hpr hk hmm hS hlt
      have e0 : bnd 0 = 2199023255552 := rfl
      rw [e0] at bM
      obtain ⟨R, hR⟩ : ∃ R, R = arcR A B := ⟨_, rfl⟩
      rw [← hR] at MD SH
      have HR := Lib.hid hR
      clear hR eR eP
      generalize A * 2 ^ k = X at *
      generalize B * 2 ^ k = Y at *
      have m5 := run_max3 X Y (-Y) _ rfl
      have t5 : decide (1099511627776 ≤ max X (max Y (-Y))) = true := decide_eq_true hge
      generalize max X (max Y (-Y)) = M at *
      clear hge
      obtain ⟨p0, hp0⟩ : ∃ p0 : Pt, p0 = ⟨X, Y, 0⟩ := ⟨_, rfl⟩
      have B0 := Lib.hid (show Bd (bnd 0) p0 by rw [hp0]; exact bM)
      have Z0 := Lib.hid (show p0.z = 0 by rw [hp0])
      have C0 := Lib.hid (show (stqs p0 0).x = X ∧ (stqs p0 0).y = Y ∧ (stqs p0 0).z = 0 by rw [hp0]; exact ⟨rfl, rfl, rfl⟩)
      rw [← hp0] at HP MD hzz
      clear hp0
      go_wp2_with (first | (go_at_call 46; (with_reducible refine (A1.out _).mono ?_); rintro e w2 ⟨rfl, k1⟩; replace K := K.step k1; clear k1; (try clear ww); revert w2; intro ww K))
      go_loopw [0, 1, 8, 47] (fun x y z i wr => ∃ k : Nat, k ≤ 30 ∧ i = .int .i64 k ∧ x = .int .i64 (stqs p0 k).x ∧ y = .int .i64 (stqs p0 k).y ∧ z = .int .i64 (stqs p0 k).z ∧ St w.heap.size w [] Any wr) (fun _ _ _ i _ => 30 - (intOf i).toNat)
      case atStart => exact ⟨0, by omega, rfl, by rw [C0.out.1], by rw [C0.out.2.1], by rw [C0.out.2.2], K⟩
      case round =>
        clear K
        obtain ⟨j, hj, rfl, rfl, rfl, rfl, K⟩ := hrel
        by_cases hlt : j < 30
        · have ht : decide ((j : Int) < 30) = true := decide_eq_true (by omega)
          have hs : Hid (stqs p0 (j + 1) = stq j (stqs p0 j)) := Lib.hid rfl
          have hb := stqs_bd _ B0.out j hj
          have hB := bnd_le j hj
          have hz := stqs_z p0 j
          rw [Z0.out] at hz
          generalize stqs p0 j = p at *
          obtain ⟨x, y, z⟩ := p
          unfold Bd at hb
          dsimp only at hb hz
          have hx1 : -35184372088832 ≤ x ∧ x ≤ 35184372088832 := by omega
          have hy1 : -35184372088832 ≤ y ∧ y ≤ 35184372088832 := by omega
          have hz1 : -17179869184 ≤ z ∧ z ≤ 18253611008 := by omega
          have ba := arcA_bd j
          have bx := prt_le j hx1.1 hx1.2
          have by' := prt_le j hy1.1 hy1.2
          have P1 := Lib.hid (fun w => shr_any x j w (by omega) (by omega))
          have P2 := Lib.hid (fun w => shr_any y j w (by omega) (by omega))
          have I1 := fun w => HI.out j hlt w
          unfold stq at hs
          dsimp only at hs
          generalize prt x j = px at *
          generalize prt y j = py at *
          generalize arcA j = ar at *
          clear hb hB hz t5 m5 bM hzz
          by_cases hneg : 0 < y
          · rw [if_pos hneg] at hs
            go_wp2_with (first | (go_at_call 47; (with_reducible refine (P2.out _).mono ?_); rintro e w2 ⟨rfl, rfl⟩; (try dsimp only)) | (go_at_call 47; (with_reducible refine (P1.out _).mono ?_); rintro e w2 ⟨rfl, rfl⟩; (try dsimp only)))
            exact ⟨⟨j + 1, by omega, by go_num, by rw [hs.out], by rw [hs.out], by rw [hs.out], K⟩, by simp [intOf]; omega⟩
          · rw [if_neg hneg] at hs
            have tz : decide (0 < y) = false := decide_eq_false hneg
            go_wp2_with (first | (go_at_call 47; (with_reducible refine (P2.out _).mono ?_); rintro e w2 ⟨rfl, rfl⟩; (try dsimp only)) | (go_at_call 47; (with_reducible refine (P1.out _).mono ?_); rintro e w2 ⟨rfl, rfl⟩; (try dsimp only)))
            exact ⟨⟨j + 1, by omega, by go_num, by rw [hs.out], by rw [hs.out], by rw [hs.out], K⟩, by simp [intOf]; omega⟩
        · obtain rfl : j = 30 := by omega
          clear t5 m5 bM
          rw [Z0.out] at hzz
          go_wp2_with (first | (go_at_call 50; (with_reducible refine (MD.out _).mono ?_); rintro e w2 ⟨rfl, k1⟩; replace K := K.step k1; clear k1; (try clear ww); revert w2; intro ww K) | (go_at_call 47; (with_reducible refine (SH.out _).mono ?_); rintro e w2 ⟨rfl, rfl⟩; (try dsimp only)))
          rw [Exit.noGoto_ret]
          go_ret2
          exact ⟨ret_tup2 (v_int (by rw [HE.out.2, HP.out] <;> (first | rfl | omega))) (v_int (by rw [← HE.out.1, ← HR.out])), K.below⟩
set_option maxRecDepth 100000 in
set_option maxHeartbeats 4000000 in
theorem Arc_neg (x y A0 B0' A B : Int) (w : World) (hx : cut40 x = A0) (hy : cut40 y = B0') (b1 : -1099511627776 ≤ A0 ∧ A0 ≤ 1099511627776) (b2 : -1099511627776 ≤ B0' ∧ B0' ≤ 1099511627776) (n1 : -A0 = A) (n2 : -B0' = B) (hA : 0 ≤ A) (hM : mag A B ≤ 1099511627776) (hM1 : 1 ≤ mag A B) (t0 : (A0 == 0) = false) (t1 : decide (A0 < 0) = true) :
    Calls Try.prog 16 #[.int .i64 x, .int .i64 y] w fun e w' => e = .returned (.tuple #[.int .u32 (arcZ 2147483648 A B), .int .i64 (prt (arcR A B) (sclF 40 (mag A B)))]) ∧ Below w.heap.size w w' := by
  have K := St.start w
  have m1 := cut40_eq x
  have m2 := cut40_eq y
  rw [hx] at m1
  rw [hy] at m2
  clear hx hy
  have tm := Lib.hid (And.intro hM1 hM)
  have hA' := Lib.hid hA
  have A1 := Lib.hid arcs_any
  have HI := Lib.hid arcV_index
  generalize arcV = arr at *
  clear hM hM1 hA
  go_enter Try.func16, Try.ntmps16
  go_wp2
  go_step3
  go_wp2
  go_step3
  go_wp2
  go_loop [0, 1, 7] (fun x y n => ∃ k : Nat, sclAt A B k ∧ n = .int .i64 k ∧ x = .int .i64 (A * 2 ^ k) ∧ y = .int .i64 (B * 2 ^ k)) (fun _ _ n => 40 - (intOf n).toNat)
  case atStart => exact ⟨0, ⟨by omega, by simp⟩, rfl, by simp, by simp⟩
  case round =>
    obtain ⟨k, hk, rfl, rfl, rfl⟩ := hrel
    have hmm := mag_mul A B k
    by_cases hlt : mag (A * 2 ^ k) (B * 2 ^ k) < 1099511627776
    · have hn := Lib.hid (sclAt_next tm.out.1 hk hlt)
      have e1 : Hid (A * 2 ^ (k + 1) = 2 * (A * 2 ^ k)) := Lib.hid (by rw [Int.pow_succ, ← Int.mul_assoc, Int.mul_comm _ 2])
      have e2 : Hid (B * 2 ^ (k + 1) = 2 * (B * 2 ^ k)) := Lib.hid (by rw [Int.pow_succ, ← Int.mul_assoc, Int.mul_comm _ 2])
      have hX : 0 ≤ A * 2 ^ k := Int.mul_nonneg hA'.out (Int.le_of_lt (Int.pow_pos (by omega)))
      have hk1 := Lib.hid hk
      have hk40 := hn.out.1
      clear hk hmm
      generalize A * 2 ^ k = X at *
      generalize B * 2 ^ k = Y at *
      have hb : X < 1099511627776 ∧ Y < 1099511627776 ∧ -Y < 1099511627776 := by unfold mag at hlt; omega
      have m5 := run_max3 X Y (-Y) _ rfl
      have t5 : decide (1099511627776 ≤ max X (max Y (-Y))) = false := decide_eq_false (by omega)
      generalize max X (max Y (-Y)) = M at *
      clear hlt
      go_wp2
      exact ⟨⟨k + 1, hn.out.2, by go_num, by rw [e1.out], by rw [e2.out]⟩, by simp [intOf]; omega⟩
    · have hge : 1099511627776 ≤ mag (A * 2 ^ k) (B * 2 ^ k) := by omega
      have hX : 0 ≤ A * 2 ^ k := Int.mul_nonneg hA'.out (Int.le_of_lt (Int.pow_pos (by omega)))
      obtain ⟨S, hS⟩ : ∃ S, S = sclF 40 (mag A B) := ⟨_, rfl⟩
      obtain rfl : k = S := by rw [hS]; exact sclAt_stop hk hge
      have hSl : k ≤ 40 := hk.1
      have hst := arc_start hA'.out tm.out.2
      have hpx := arcP_bd hA'.out tm.out.2
      have hpr := arcR_bd hA'.out tm.out.2
      have hzz := stqs_z ⟨A * 2 ^ k, B * 2 ^ k, 0⟩ 30
      have eR : arcR A B = ((arcP A B).x * 652032874 + 536870912) / 1073741824 := rfl
      have eP : arcP A B = stqs ⟨A * 2 ^ k, B * 2 ^ k, 0⟩ 30 := by unfold arcP; rw [← hS]
      have eZ : arcZ 2147483648 A B = (2147483648 + (arcP A B).z) % 4294967296 := rfl
      have MD := Lib.hid (fun w => MulDiv_any (arcP A B).x 652032874 1073741824 2 w (by omega) (by omega) (by omega) (by omega) (by omega) (by omega))
      rw [divM_gain _ hpx.1 hpx.2, ← eR] at MD
      have SH := Lib.hid (fun w => shr_any (arcR A B) k w (by omega) hSl)
      have HE := Lib.hid (And.intro hS eZ)
      have HP := Lib.hid eP
      rw [eP] at MD
      have bM : -(bnd 0) ≤ A * 2 ^ k ∧ A * 2 ^ k ≤ bnd 0 ∧ -(bnd 0) ≤ B * 2 ^ k ∧ B * 2 ^ k ≤ bnd 0 := by
        rw [← hS] at hst
        exact hst
      clear eZ hst hpx hpr hk hmm hS hlt
      have e0 : bnd 0 = 2199023255552 := rfl
      rw [e0] at bM
      obtain ⟨R, hR⟩ : ∃ R, R = arcR A B := ⟨_, rfl⟩
      rw [← hR] at MD SH
      have HR := Lib.hid hR
      clear hR eR eP
      generalize A * 2 ^ k = X at *
      generalize B * 2 ^ k = Y at *
      have m5 := run_max3 X Y (-Y) _ rfl
      have t5 : decide (1099511627776 ≤ max X (max Y (-Y))) = true := decide_eq_true hge
      generalize max X (max Y (-Y)) = M at *
      clear hge
      obtain ⟨p0, hp0⟩ : ∃ p0 : Pt, p0 = ⟨X, Y, 0⟩ := ⟨_, rfl⟩
      have B0 := Lib.hid (show Bd (bnd 0) p0 by rw [hp0]; exact bM)
      have Z0 := Lib.hid (show p0.z = 0 by rw [hp0])
      have C0 := Lib.hid (show (stqs p0 0).x = X ∧ (stqs p0 0).y = Y ∧ (stqs p0 0).z = 0 by rw [hp0]; exact ⟨rfl, rfl, rfl⟩)
      rw [← hp0] at HP MD hzz
      clear hp0
      go_wp2_with (first | (go_at_call 46; (with_reducible refine (A1.out _).mono ?_); rintro e w2 ⟨rfl, k1⟩; replace K := K.step k1; clear k1; (try clear ww); revert w2; intro ww K))
      go_loopw [0, 1, 8, 47] (fun x y z i wr => ∃ k : Nat, k ≤ 30 ∧ i = .int .i64 k ∧ x = .int .i64 (stqs p0 k).x ∧ y = .int .i64 (stqs p0 k).y ∧ z = .int .i64 (stqs p0 k).z ∧ St w.heap.size w [] Any wr) (fun _ _ _ i _ => 30 - (intOf i).toNat)
      case atStart => exact ⟨0, by omega, rfl, by rw [C0.out.1], by rw [C0.out.2.1], by rw [C0.out.2.2], K⟩
      case round =>
        clear K
        obtain ⟨j, hj, rfl, rfl, rfl, rfl, K⟩ := hrel
        by_cases hlt : j < 30
        · have ht : decide ((j : Int) < 30) = true := decide_eq_true (by omega)
          have hs : Hid (stqs p0 (j + 1) = stq j (stqs p0 j)) := Lib.hid rfl
          have hb := stqs_bd _ B0.out j hj
          have hB := bnd_le j hj
          have hz := stqs_z p0 j
          rw [Z0.out] at hz
          generalize stqs p0 j = p at *
          obtain ⟨x, y, z⟩ := p
          unfold Bd at hb
          dsimp only at hb hz
          have hx1 : -35184372088832 ≤ x ∧ x ≤ 35184372088832 := by omega
          have hy1 : -35184372088832 ≤ y ∧ y ≤ 35184372088832 := by omega
          have hz1 : -17179869184 ≤ z ∧ z ≤ 18253611008 := by omega
          have ba := arcA_bd j
          have bx := prt_le j hx1.1 hx1.2
          have by' := prt_le j hy1.1 hy1.2
          have P1 := Lib.hid (fun w => shr_any x j w (by omega) (by omega))
          have P2 := Lib.hid (fun w => shr_any y j w (by omega) (by omega))
          have I1 := fun w => HI.out j hlt w
          unfold stq at hs
          dsimp only at hs
          generalize prt x j = px at *
          generalize prt y j = py at *
          generalize arcA j = ar at *
          clear hb hB hz t5 m5 bM hzz
          by_cases hneg : 0 < y
          · rw [if_pos hneg] at hs
            go_wp2_with (first | (go_at_call 47; (with_reducible refine (P2.out _).mono ?_); rintro e w2 ⟨rfl, rfl⟩; (try dsimp only)) | (go_at_call 47; (with_reducible refine (P1.out _).mono ?_); rintro e w2 ⟨rfl, rfl⟩; (try dsimp only)))
            exact ⟨⟨j + 1, by omega, by go_num, by rw [hs.out], by rw [hs.out], by rw [hs.out], K⟩, by simp [intOf]; omega⟩
          · rw [if_neg hneg] at hs
            have tz : decide (0 < y) = false := decide_eq_false hneg
            go_wp2_with (first | (go_at_call 47; (with_reducible refine (P2.out _).mono ?_); rintro e w2 ⟨rfl, rfl⟩; (try dsimp only)) | (go_at_call 47; (with_reducible refine (P1.out _).mono ?_); rintro e w2 ⟨rfl, rfl⟩; (try dsimp only)))
            exact ⟨⟨j + 1, by omega, by go_num, by rw [hs.out], by rw [hs.out], by rw [hs.out], K⟩, by simp [intOf]; omega⟩
        · obtain rfl : j = 30 := by omega
          clear t5 m5 bM
          rw [Z0.out] at hzz
          go_wp2_with (first | (go_at_call 50; (with_reducible refine (MD.out _).mono ?_); rintro e w2 ⟨rfl, k1⟩; replace K := K.step k1; clear k1; (try clear ww); revert w2; intro ww K) | (go_at_call 47; (with_reducible refine (SH.out _).mono ?_); rintro e w2 ⟨rfl, rfl⟩; (try dsimp only)))
          rw [Exit.noGoto_ret]
          go_ret2
          exact ⟨ret_tup2 (v_int (by rw [HE.out.2, HP.out] <;> (first | rfl | omega))) (v_int (by rw [← HE.out.1, ← HR.out])), K.below⟩
set_option maxRecDepth 100000 in
theorem Arc_none (x y : Int) (w : World) (hx : cut40 x = 0) (hy : cut40 y = 0) :
    Calls Try.prog 16 #[.int .i64 x, .int .i64 y] w fun e w' => e = .returned (.tuple #[.int .u32 0, .int .i64 0]) ∧ Below w.heap.size w w' := by
  have K := St.start w
  have m1 := cut40_eq x
  have m2 := cut40_eq y
  rw [hx] at m1
  rw [hy] at m2
  clear hx hy
  go_enter Try.func16, Try.ntmps16
  go_wp2
  go_step3
  go_wp2
  rw [Exit.noGoto_ret]
  go_ret2
  exact ⟨rfl, K.below⟩
theorem mag_bd {A B : Int} (hA : 0 ≤ A ∧ A ≤ 1099511627776) (hB : -1099511627776 ≤ B ∧ B ≤ 1099511627776) (h : A ≠ 0 ∨ B ≠ 0) : mag A B ≤ 1099511627776 ∧ 1 ≤ mag A B := by unfold mag; omega
theorem Arc_any (x y : Int) (w : World) :
    Calls Try.prog 16 #[.int .i64 x, .int .i64 y] w fun e w' => e = .returned (.tuple #[.int .u32 (arcA2 x y).1, .int .i64 (arcA2 x y).2]) ∧ Below w.heap.size w w' := by
  have b1 := cut40_bd x
  have b2 := cut40_bd y
  unfold arcA2
  by_cases h0 : cut40 x = 0
  · by_cases h1 : cut40 y = 0
    · rw [if_pos ⟨h0, h1⟩]
      exact Arc_none x y w h0 h1
    · rw [if_neg (fun h => h1 h.2), if_neg (by omega)]
      have hm := mag_bd (A := cut40 x) (B := cut40 y) (by omega) b2 (.inr h1)
      exact Arc_nil x y _ _ w rfl rfl (show 0 ≤ cut40 x by omega) hm.1 hm.2 (by simpa using h0) (by simpa using h1)
  · rw [if_neg (fun h => h0 h.1)]
    by_cases h2 : cut40 x < 0
    · rw [if_pos h2]
      have hm := mag_bd (A := -(cut40 x)) (B := -(cut40 y)) (by omega) (by omega) (.inl (by omega))
      exact Arc_neg x y _ _ _ _ w rfl rfl b1 b2 rfl rfl (show 0 ≤ -(cut40 x) by omega) hm.1 hm.2 (by simpa using h0) (decide_eq_true h2)
    · rw [if_neg h2]
      have hm := mag_bd (A := cut40 x) (B := cut40 y) (by omega) b2 (.inl h0)
      exact Arc_pos x y _ _ w rfl rfl (show 0 ≤ cut40 x by omega) hm.1 hm.2 (by simpa using h0)
end Go.Proofs.Ytnphpnkfdnnmbaa
