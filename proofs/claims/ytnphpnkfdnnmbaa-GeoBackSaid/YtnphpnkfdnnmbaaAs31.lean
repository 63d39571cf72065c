/-
  The walk of the document's answer for arcs.
-/
import Derived.Test.YtnphpnkfdnnmbaaAr31
namespace Go.Proofs.Ytnphpnkfdnnmbaa
open Go.RowKit
attribute [local irreducible] wpHeld wpList
set_option linter.unusedVariables false
def sumA : Nat → Int
  | 0 => 0
  | i + 1 => sumA i + arcA i
theorem sumA_le (i : Nat) (h : i ≤ 30) : 0 ≤ sumA i ∧ sumA i ≤ 2147483648 := by
  have : ∀ j, j < 31 → 0 ≤ sumA j ∧ sumA j ≤ 2147483648 := by decide
  exact this i (by omega)
theorem stqs_zs (p : Pt) : ∀ i : Nat, p.z - sumA i ≤ (stqs p i).z ∧ (stqs p i).z ≤ p.z + sumA i
  | 0 => by simp [stqs, sumA]
  | i + 1 => by
    have h := stqs_zs p i
    have ha := arcA_bd i
    unfold stqs stq sumA
    split <;> (dsimp only; omega)
theorem cut_any (x : Int) (w : World) : Calls Try.prog 51 #[.int .i64 x] w fun e w' => e = .returned (.int .i64 (cut40 x)) ∧ w = w' := by
  unfold cut40
  by_cases h1 : 1099511627776 < x
  · rw [if_pos h1]
    go_enter Try.func51, Try.ntmps51
    go_wp2
    go_ret
    exact ⟨rfl, rfl⟩
  · have t1 : decide (1099511627776 < x) = false := decide_eq_false h1
    rw [if_neg h1]
    by_cases h2 : x < -1099511627776
    · rw [if_pos h2]
      go_enter Try.func51, Try.ntmps51
      go_wp2
      go_ret
      exact ⟨rfl, rfl⟩
    · have t2 : decide (x < -1099511627776) = false := decide_eq_false h2
      rw [if_neg h2]
      go_enter Try.func51, Try.ntmps51
      go_wp2
      go_ret
      exact ⟨rfl, rfl⟩
theorem abs31_any (x : Int) (w : World) (h : -4611686018427387904 ≤ x) (h' : x ≤ 4611686018427387904) : Calls Try.prog 52 #[.int .i64 x] w fun e w' => e = .returned (.int .i64 (max x (-x))) ∧ w = w' := by
  by_cases h1 : x < 0
  · rw [show max x (-x) = -x by omega]
    go_enter Try.func52, Try.ntmps52
    go_wp2
    go_ret
    exact ⟨rfl, rfl⟩
  · have t1 : decide (x < 0) = false := decide_eq_false h1
    rw [show max x (-x) = x by omega]
    go_enter Try.func52, Try.ntmps52
    go_wp2
    go_ret
    exact ⟨rfl, rfl⟩
theorem stqs_base {X Y base : Int} {p0 q : Pt} (n : Nat) (h : p0 = ⟨X, Y, base⟩) (hq : q = stqs ⟨X, Y, 0⟩ n) : q.x = (stqs p0 n).x ∧ base + q.z = (stqs p0 n).z := by
  have e := stqs_shift X Y base n
  subst hq h
  constructor
  · exact (congrArg Pt.x e).symm
  · exact (congrArg Pt.z e).symm
set_option maxRecDepth 100000 in
set_option maxHeartbeats 4000000 in
theorem RArc_pos (x y A B : Int) (w : World) (hx : cut40 x = A) (hy : cut40 y = B) (hA : 0 ≤ A) (hM : mag A B ≤ 1099511627776) (hM1 : 1 ≤ mag A B) (t0 : (A == 0) = false) :
    Calls Try.prog 17 #[.int .i64 x, .int .i64 y] w fun e w' => e = .returned (.tuple #[.int .u32 (arcZ 0 A B), .int .i64 (prt (arcR A B) (sclF 40 (mag A B)))]) ∧ Below w.heap.size w w' := by
  have t1 : decide (A < 0) = false := decide_eq_false (by omega)
  have K := St.start w
  have c1 := Lib.hid (cut_any x)
  have c2 := Lib.hid (cut_any y)
  rw [hx] at c1
  rw [hy] at c2
  clear hx hy
  have tm := Lib.hid (And.intro hM1 hM)
  have hA' := Lib.hid hA
  clear hM hM1 hA
  go_enter Try.func17, Try.ntmps17
  go_wp2_with (first | (go_at_call 51; (with_reducible refine (c1.out _).mono ?_); rintro e w2 ⟨rfl, rfl⟩; (try dsimp only)) | (go_at_call 51; (with_reducible refine (c2.out _).mono ?_); rintro e w2 ⟨rfl, rfl⟩; (try dsimp only)))
  go_loop [6, 7, 9] (fun x y n => ∃ k : Nat, sclAt A B k ∧ n = .int .i64 k ∧ x = .int .i64 (A * 2 ^ k) ∧ y = .int .i64 (B * 2 ^ k)) (fun _ _ n => 40 - (intOf n).toNat)
  case atStart => exact ⟨0, ⟨by omega, by simp⟩, rfl, by simp, by simp⟩
  case round =>
    obtain ⟨k, hk, rfl, rfl, rfl⟩ := hrel
    have hmm := mag_mul A B k
    by_cases hlt : mag (A * 2 ^ k) (B * 2 ^ k) < 1099511627776
    · have hn := Lib.hid (sclAt_next tm.out.1 hk hlt)
      have e1 : Hid (A * 2 ^ (k + 1) = 2 * (A * 2 ^ k)) := Lib.hid (by rw [Int.pow_succ, ← Int.mul_assoc, Int.mul_comm _ 2])
      have e2 : Hid (B * 2 ^ (k + 1) = 2 * (B * 2 ^ k)) := Lib.hid (by rw [Int.pow_succ, ← Int.mul_assoc, Int.mul_comm _ 2])
      have hX : 0 ≤ A * 2 ^ k := Int.mul_nonneg hA'.out (Int.le_of_lt (Int.pow_pos (by omega)))
      have hk40 := hn.out.1
      clear hk hmm
      generalize A * 2 ^ k = X at *
      generalize B * 2 ^ k = Y at *
      have hb : X < 1099511627776 ∧ Y < 1099511627776 ∧ -Y < 1099511627776 := by unfold mag at hlt; omega
      have AB := Lib.hid (fun w => abs31_any Y w (by omega) (by omega))
      have t4 : decide (X < 1099511627776) = true := decide_eq_true (by omega)
      have t5 : decide (max Y (-Y) < 1099511627776) = true := decide_eq_true (by omega)
      generalize max Y (-Y) = M at *
      clear hlt
      go_wp2_with (first | (go_at_call 52; (with_reducible refine (AB.out _).mono ?_); rintro e w2 ⟨rfl, rfl⟩; (try dsimp only)))
      exact ⟨⟨k + 1, hn.out.2, by go_num, by rw [e1.out], by rw [e2.out]⟩, by simp [intOf]; omega⟩
    · have hge : 1099511627776 ≤ mag (A * 2 ^ k) (B * 2 ^ k) := by omega
      have hX : 0 ≤ A * 2 ^ k := Int.mul_nonneg hA'.out (Int.le_of_lt (Int.pow_pos (by omega)))
      obtain ⟨S, hS⟩ : ∃ S, S = sclF 40 (mag A B) := ⟨_, rfl⟩
      obtain rfl : k = S := by rw [hS]; exact sclAt_stop hk hge
      have hSl : k ≤ 40 := hk.1
      have hst := arc_start hA'.out tm.out.2
      have hpx := arcP_bd hA'.out tm.out.2
      have hpr := arcR_bd hA'.out tm.out.2
      have eR : arcR A B = ((arcP A B).x * 652032874 + 536870912) / 1073741824 := rfl
      have eP : arcP A B = stqs ⟨A * 2 ^ k, B * 2 ^ k, 0⟩ 30 := by unfold arcP; rw [← hS]
      have eZ : arcZ 0 A B = (0 + (arcP A B).z) % 4294967296 := rfl
      have SH := Lib.hid (fun w => part_any (arcR A B) k w (by omega) hSl)
      have HE := Lib.hid (And.intro hS eZ)
      have bM : -(bnd 0) ≤ A * 2 ^ k ∧ A * 2 ^ k ≤ bnd 0 ∧ -(bnd 0) ≤ B * 2 ^ k ∧ B * 2 ^ k ≤ bnd 0 := by
        rw [← hS] at hst
        exact hst
      clear eZ hst hpr hk hmm hS hlt
      have e0 : bnd 0 = 2199023255552 := rfl
      rw [e0] at bM
      obtain ⟨R, hR⟩ : ∃ R, R = arcR A B := ⟨_, rfl⟩
      rw [← hR] at SH
      have HR := Lib.hid hR
      generalize A * 2 ^ k = X at *
      generalize B * 2 ^ k = Y at *
      obtain ⟨p0, hp0⟩ : ∃ p0 : Pt, p0 = ⟨X, Y, 0⟩ := ⟨_, rfl⟩
      have B0 := Lib.hid (show Bd (bnd 0) p0 by rw [hp0]; exact bM)
      have Z0 := Lib.hid (show p0.z = 0 by rw [hp0])
      have C0 := Lib.hid (show (stqs p0 0).x = X ∧ (stqs p0 0).y = Y ∧ (stqs p0 0).z = 0 by rw [hp0]; exact ⟨rfl, rfl, rfl⟩)
      have eS := stqs_base 30 hp0 eP
      have HP := Lib.hid (show (arcP A B).x = (stqs p0 30).x ∧ 0 + (arcP A B).z = (stqs p0 30).z ∧ R = ((stqs p0 30).x * 652032874 + 536870912) / 1073741824 from ⟨eS.1, eS.2, by rw [hR, eR, eS.1]⟩)
      have hXp : 0 ≤ (stqs p0 30).x ∧ (stqs p0 30).x ≤ 35184372088832 := by rw [← HP.out.1]; exact hpx
      have hzz := Lib.hid (show -2147483648 ≤ (stqs p0 30).z ∧ (stqs p0 30).z ≤ 4294967296 by
        have a := stqs_zs p0 30
        have b := sumA_le 30 (by omega)
        rw [Z0.out] at a
        omega)
      clear hp0 hR eR eP eS hpx
      by_cases hc : X < 1099511627776
      · have AB := Lib.hid (fun w => abs31_any Y w (by omega) (by omega))
        have t4 : decide (X < 1099511627776) = true := decide_eq_true hc
        have t5 : decide (max Y (-Y) < 1099511627776) = false := decide_eq_false (by unfold mag at hge; omega)
        generalize max Y (-Y) = M at *
        clear hge hc
        go_wp2_with (first | (go_at_call 52; (with_reducible refine (AB.out _).mono ?_); rintro e w2 ⟨rfl, rfl⟩; (try dsimp only)))
        go_loopw [6, 7, 8, 10] (fun x y z i wr => ∃ k : Nat, k ≤ 30 ∧ i = .int .i64 k ∧ x = .int .i64 (stqs p0 k).x ∧ y = .int .i64 (stqs p0 k).y ∧ z = .int .i64 (stqs p0 k).z ∧ St w.heap.size w [] Any wr) (fun _ _ _ i _ => 30 - (intOf i).toNat)
        case atStart => exact ⟨0, by omega, rfl, by rw [C0.out.1], by rw [C0.out.2.1], by rw [C0.out.2.2], K⟩
        case round =>
          clear K
          obtain ⟨j, hj, rfl, rfl, rfl, rfl, K⟩ := hrel
          by_cases hlt : j < 30
          · have ht : decide ((j : Int) < 30) = true := decide_eq_true (by omega)
            have hs : Hid (stqs p0 (j + 1) = stq j (stqs p0 j)) := Lib.hid rfl
            have hb := stqs_bd _ B0.out j hj
            have hB := bnd_le j hj
            have hz := stqs_zs p0 j
            have hz2 := sumA_le j hj
            have hz3 := Z0.out
            generalize stqs p0 j = p at *
            obtain ⟨x, y, z⟩ := p
            unfold Bd at hb
            dsimp only at hb hz
            have hx1 : -35184372088832 ≤ x ∧ x ≤ 35184372088832 := by omega
            have hy1 : -35184372088832 ≤ y ∧ y ≤ 35184372088832 := by omega
            have hz1 : -17179869184 ≤ z ∧ z ≤ 18253611008 := by omega
            have ba := arcA_bd j
            have bx := prt_le j hx1.1 hx1.2
            have by' := prt_le j hy1.1 hy1.2
            have P1 := Lib.hid (fun w => part_any x j w (by omega) (by omega))
            have P2 := Lib.hid (fun w => part_any y j w (by omega) (by omega))
            have AA := Lib.hid (fun w => arc_any j w hlt)
            unfold stq at hs
            dsimp only at hs
            generalize prt x j = px at *
            generalize prt y j = py at *
            generalize arcA j = ar at *
            clear hb hB hz hz2 hz3 bM hzz hXp t5 HP
            by_cases hneg : 0 < y
            · rw [if_pos hneg] at hs
              go_wp2_with (first | (go_at_call 53; (with_reducible refine (P2.out _).mono ?_); rintro e w2 ⟨rfl, rfl⟩; (try dsimp only)) | (go_at_call 53; (with_reducible refine (P1.out _).mono ?_); rintro e w2 ⟨rfl, rfl⟩; (try dsimp only)) | (go_at_call 54; (with_reducible refine (AA.out _).mono ?_); rintro e w2 ⟨rfl, k1⟩; replace K := K.step k1; clear k1; (try clear ww); revert w2; intro ww K))
              exact ⟨⟨j + 1, by omega, by go_num, by rw [hs.out], by rw [hs.out], by rw [hs.out], K⟩, by simp [intOf]; omega⟩
            · rw [if_neg hneg] at hs
              have tz : decide (0 < y) = false := decide_eq_false hneg
              have e1 : x + -py = x - py := by omega
              have e2 : y - -px = y + px := by omega
              go_wp2_with (first | (go_at_call 53; (with_reducible refine (P2.out _).mono ?_); rintro e w2 ⟨rfl, rfl⟩; (try dsimp only)) | (go_at_call 53; (with_reducible refine (P1.out _).mono ?_); rintro e w2 ⟨rfl, rfl⟩; (try dsimp only)) | (go_at_call 54; (with_reducible refine (AA.out _).mono ?_); rintro e w2 ⟨rfl, k1⟩; replace K := K.step k1; clear k1; (try clear ww); revert w2; intro ww K))
              exact ⟨⟨j + 1, by omega, by go_num, by rw [hs.out]; try rw [← e1], by rw [hs.out]; try rw [← e2], by rw [hs.out], K⟩, by simp [intOf]; omega⟩
          · obtain rfl : j = 30 := by omega
            clear t5 bM
            have hz := hzz.out
            have hpx := hXp
            have hR2 : (stqs p0 30).x / 1073741824 * 652032874 + ((stqs p0 30).x % 1073741824 * 652032874 + 536870912) / 1073741824 = R := by rw [HP.out.2.2]; omega
            generalize stqs p0 30 = pp at *
            obtain ⟨px, py, pz⟩ := pp
            dsimp only at *
            go_wp2_with (first | (go_at_call 53; (with_reducible refine (SH.out _).mono ?_); rintro e w2 ⟨rfl, rfl⟩; (try dsimp only)))
            go_ret2
            exact ⟨ret_tup2 (v_int (by rw [HE.out.2, HP.out.2.1]; omega)) (v_int (by rw [← HE.out.1, ← HR.out])), K.below⟩
      · have AB := Lib.hid (fun w => abs31_any Y w (by omega) (by omega))
        have t5 : decide (X < 1099511627776) = false := decide_eq_false hc
        clear hge hc
        go_wp2_with (first | (go_at_call 52; (with_reducible refine (AB.out _).mono ?_); rintro e w2 ⟨rfl, rfl⟩; (try dsimp only)))
        go_loopw [6, 7, 8, 10] (fun x y z i wr => ∃ k : Nat, k ≤ 30 ∧ i = .int .i64 k ∧ x = .int .i64 (stqs p0 k).x ∧ y = .int .i64 (stqs p0 k).y ∧ z = .int .i64 (stqs p0 k).z ∧ St w.heap.size w [] Any wr) (fun _ _ _ i _ => 30 - (intOf i).toNat)
        case atStart => exact ⟨0, by omega, rfl, by rw [C0.out.1], by rw [C0.out.2.1], by rw [C0.out.2.2], K⟩
        case round =>
          clear K
          obtain ⟨j, hj, rfl, rfl, rfl, rfl, K⟩ := hrel
          by_cases hlt : j < 30
          · have ht : decide ((j : Int) < 30) = true := decide_eq_true (by omega)
            have hs : Hid (stqs p0 (j + 1) = stq j (stqs p0 j)) := Lib.hid rfl
            have hb := stqs_bd _ B0.out j hj
            have hB := bnd_le j hj
            have hz := stqs_zs p0 j
            have hz2 := sumA_le j hj
            have hz3 := Z0.out
            generalize stqs p0 j = p at *
            obtain ⟨x, y, z⟩ := p
            unfold Bd at hb
            dsimp only at hb hz
            have hx1 : -35184372088832 ≤ x ∧ x ≤ 35184372088832 := by omega
            have hy1 : -35184372088832 ≤ y ∧ y ≤ 35184372088832 := by omega
            have hz1 : -17179869184 ≤ z ∧ z ≤ 18253611008 := by omega
            have ba := arcA_bd j
            have bx := prt_le j hx1.1 hx1.2
            have by' := prt_le j hy1.1 hy1.2
            have P1 := Lib.hid (fun w => part_any x j w (by omega) (by omega))
            have P2 := Lib.hid (fun w => part_any y j w (by omega) (by omega))
            have AA := Lib.hid (fun w => arc_any j w hlt)
            unfold stq at hs
            dsimp only at hs
            generalize prt x j = px at *
            generalize prt y j = py at *
            generalize arcA j = ar at *
            clear hb hB hz hz2 hz3 bM hzz hXp t5 HP
            by_cases hneg : 0 < y
            · rw [if_pos hneg] at hs
              go_wp2_with (first | (go_at_call 53; (with_reducible refine (P2.out _).mono ?_); rintro e w2 ⟨rfl, rfl⟩; (try dsimp only)) | (go_at_call 53; (with_reducible refine (P1.out _).mono ?_); rintro e w2 ⟨rfl, rfl⟩; (try dsimp only)) | (go_at_call 54; (with_reducible refine (AA.out _).mono ?_); rintro e w2 ⟨rfl, k1⟩; replace K := K.step k1; clear k1; (try clear ww); revert w2; intro ww K))
              exact ⟨⟨j + 1, by omega, by go_num, by rw [hs.out], by rw [hs.out], by rw [hs.out], K⟩, by simp [intOf]; omega⟩
            · rw [if_neg hneg] at hs
              have tz : decide (0 < y) = false := decide_eq_false hneg
              have e1 : x + -py = x - py := by omega
              have e2 : y - -px = y + px := by omega
              go_wp2_with (first | (go_at_call 53; (with_reducible refine (P2.out _).mono ?_); rintro e w2 ⟨rfl, rfl⟩; (try dsimp only)) | (go_at_call 53; (with_reducible refine (P1.out _).mono ?_); rintro e w2 ⟨rfl, rfl⟩; (try dsimp only)) | (go_at_call 54; (with_reducible refine (AA.out _).mono ?_); rintro e w2 ⟨rfl, k1⟩; replace K := K.step k1; clear k1; (try clear ww); revert w2; intro ww K))
              exact ⟨⟨j + 1, by omega, by go_num, by rw [hs.out]; try rw [← e1], by rw [hs.out]; try rw [← e2], by rw [hs.out], K⟩, by simp [intOf]; omega⟩
          · obtain rfl : j = 30 := by omega
            clear t5 bM
            have hz := hzz.out
            have hpx := hXp
            have hR2 : (stqs p0 30).x / 1073741824 * 652032874 + ((stqs p0 30).x % 1073741824 * 652032874 + 536870912) / 1073741824 = R := by rw [HP.out.2.2]; omega
            generalize stqs p0 30 = pp at *
            obtain ⟨px, py, pz⟩ := pp
            dsimp only at *
            go_wp2_with (first | (go_at_call 53; (with_reducible refine (SH.out _).mono ?_); rintro e w2 ⟨rfl, rfl⟩; (try dsimp only)))
            go_ret2
            exact ⟨ret_tup2 (v_int (by rw [HE.out.2, HP.out.2.1]; omega)) (v_int (by rw [← HE.out.1, ← HR.out])), K.below⟩
set_option maxRecDepth 100000 in
set_option maxHeartbeats 4000000 in
theorem RArc_nil (x y A B : Int) (w : World) (hx : cut40 x = A) (hy : cut40 y = B) (hA : 0 ≤ A) (hM : mag A B ≤ 1099511627776) (hM1 : 1 ≤ mag A B) (t0 : (A == 0) = true) (t2 : (B == 0) = false) :
    Calls Try.prog 17 #[.int .i64 x, .int .i64 y] w fun e w' => e = .returned (.tuple #[.int .u32 (arcZ 0 A B), .int .i64 (prt (arcR A B) (sclF 40 (mag A B)))]) ∧ Below w.heap.size w w' := by
  have t1 : decide (A < 0) = false := decide_eq_false (by omega)
  have K := St.start w
  have c1 := Lib.hid (cut_any x)
  have c2 := Lib.hid (cut_any y)
  rw [hx] at c1
  rw [hy] at c2
  clear hx hy
  have tm := Lib.hid (And.intro hM1 hM)
  have hA' := Lib.hid hA
  clear hM hM1 hA
  go_enter Try.func17, Try.ntmps17
  go_wp2_with (first | (go_at_call 51; (with_reducible refine (c1.out _).mono ?_); rintro e w2 ⟨rfl, rfl⟩; (try dsimp only)) | (go_at_call 51; (with_reducible refine (c2.out _).mono ?_); rintro e w2 ⟨rfl, rfl⟩; (try dsimp only)))
  go_loop [6, 7, 9] (fun x y n => ∃ k : Nat, sclAt A B k ∧ n = .int .i64 k ∧ x = .int .i64 (A * 2 ^ k) ∧ y = .int .i64 (B * 2 ^ k)) (fun _ _ n => 40 - (intOf n).toNat)
  case atStart => exact ⟨0, ⟨by omega, by simp⟩, rfl, by simp, by simp⟩
  case round =>
    obtain ⟨k, hk, rfl, rfl, rfl⟩ := hrel
    have hmm := mag_mul A B k
    by_cases hlt : mag (A * 2 ^ k) (B * 2 ^ k) < 1099511627776
    · have hn := Lib.hid (sclAt_next tm.out.1 hk hlt)
      have e1 : Hid (A * 2 ^ (k + 1) = 2 * (A * 2 ^ k)) := Lib.hid (by rw [Int.pow_succ, ← Int.mul_assoc, Int.mul_comm _ 2])
      have e2 : Hid (B * 2 ^ (k + 1) = 2 * (B * 2 ^ k)) := Lib.hid (by rw [Int.pow_succ, ← Int.mul_assoc, Int.mul_comm _ 2])
      have hX : 0 ≤ A * 2 ^ k := Int.mul_nonneg hA'.out (Int.le_of_lt (Int.pow_pos (by omega)))
      have hk40 := hn.out.1
      clear hk hmm
      generalize A * 2 ^ k = X at *
      generalize B * 2 ^ k = Y at *
      have hb : X < 1099511627776 ∧ Y < 1099511627776 ∧ -Y < 1099511627776 := by unfold mag at hlt; omega
      have AB := Lib.hid (fun w => abs31_any Y w (by omega) (by omega))
      have t4 : decide (X < 1099511627776) = true := decide_eq_true (by omega)
      have t5 : decide (max Y (-Y) < 1099511627776) = true := decide_eq_true (by omega)
      generalize max Y (-Y) = M at *
      clear hlt
      go_wp2_with (first | (go_at_call 52; (with_reducible refine (AB.out _).mono ?_); rintro e w2 ⟨rfl, rfl⟩; (try dsimp only)))
      exact ⟨⟨k + 1, hn.out.2, by go_num, by rw [e1.out], by rw [e2.out]⟩, by simp [intOf]; omega⟩
    · have hge : 1099511627776 ≤ mag (A * 2 ^ k) (B * 2 ^ k) := by omega
      have hX : 0 ≤ A * 2 ^ k := Int.mul_nonneg hA'.out (Int.le_of_lt (Int.pow_pos (by omega)))
      obtain ⟨S, hS⟩ : ∃ S, S = sclF 40 (mag A B) := ⟨_, rfl⟩
      obtain rfl : k = S := by rw [hS]; exact sclAt_stop hk hge
      have hSl : k ≤ 40 := hk.1
      have hst := arc_start hA'.out tm.out.2
      have hpx := arcP_bd hA'.out tm.out.2
      have hpr := arcR_bd hA'.out tm.out.2
      have eR : arcR A B = ((arcP A B).x * 652032874 + 536870912) / 1073741824 := rfl
      have eP : arcP A B = stqs ⟨A * 2 ^ k, B * 2 ^ k, 0⟩ 30 := by unfold arcP; rw [← hS]
      have eZ : arcZ 0 A B = (0 + (arcP A B).z) % 4294967296 := rfl
      have SH := Lib.hid (fun w => part_any (arcR A B) k w (by omega) hSl)
      have HE := Lib.hid (And.intro hS eZ)
      have bM : -(bnd 0) ≤ A * 2 ^ k ∧ A * 2 ^ k ≤ bnd 0 ∧ -(bnd 0) ≤ B * 2 ^ k ∧ B * 2 ^ k ≤ bnd 0 := by
        rw [← hS] at hst
        exact hst
      clear eZ hst hpr hk hmm hS hlt
      have e0 : bnd 0 = 2199023255552 := rfl
      rw [e0] at bM
      obtain ⟨R, hR⟩ : ∃ R, R = arcR A B := ⟨_, rfl⟩
      rw [← hR] at SH
      have HR := Lib.hid hR
      generalize A * 2 ^ k = X at *
      generalize B * 2 ^ k = Y at *
      obtain ⟨p0, hp0⟩ : ∃ p0 : Pt, p0 = ⟨X, Y, 0⟩ := ⟨_, rfl⟩
      have B0 := Lib.hid (show Bd (bnd 0) p0 by rw [hp0]; exact bM)
      have Z0 := Lib.hid (show p0.z = 0 by rw [hp0])
      have C0 := Lib.hid (show (stqs p0 0).x = X ∧ (stqs p0 0).y = Y ∧ (stqs p0 0).z = 0 by rw [hp0]; exact ⟨rfl, rfl, rfl⟩)
      have eS := stqs_base 30 hp0 eP
      have HP := Lib.hid (show (arcP A B).x = (stqs p0 30).x ∧ 0 + (arcP A B).z = (stqs p0 30).z ∧ R = ((stqs p0 30).x * 652032874 + 536870912) / 1073741824 from ⟨eS.1, eS.2, by rw [hR, eR, eS.1]⟩)
      have hXp : 0 ≤ (stqs p0 30).x ∧ (stqs p0 30).x ≤ 35184372088832 := by rw [← HP.out.1]; exact hpx
      have hzz := Lib.hid (show -2147483648 ≤ (stqs p0 30).z ∧ (stqs p0 30).z ≤ 4294967296 by
        have a := stqs_zs p0 30
        have b := sumA_le 30 (by omega)
        rw [Z0.out] at a
        omega)
      clear hp0 hR eR eP eS hpx
      by_cases hc : X < 1099511627776
      · have AB := Lib.hid (fun w => abs31_any Y w (by omega) (by omega))
        have t4 : decide (X < 1099511627776) = true := decide_eq_true hc
        have t5 : decide (max Y (-Y) < 1099511627776) = false := decide_eq_false (by unfold mag at hge; omega)
        generalize max Y (-Y) = M at *
        clear hge hc
        go_wp2_with (first | (go_at_call 52; (with_reducible refine (AB.out _).mono ?_); rintro e w2 ⟨rfl, rfl⟩; (try dsimp only)))
        go_loopw [6, 7, 8, 10] (fun x y z i wr => ∃ k : Nat, k ≤ 30 ∧ i = .int .i64 k ∧ x = .int .i64 (stqs p0 k).x ∧ y = .int .i64 (stqs p0 k).y ∧ z = .int .i64 (stqs p0 k).z ∧ St w.heap.size w [] Any wr) (fun _ _ _ i _ => 30 - (intOf i).toNat)
        case atStart => exact ⟨0, by omega, rfl, by rw [C0.out.1], by rw [C0.out.2.1], by rw [C0.out.2.2], K⟩
        case round =>
          clear K
          obtain ⟨j, hj, rfl, rfl, rfl, rfl, K⟩ := hrel
          by_cases hlt : j < 30
          · have ht : decide ((j : Int) < 30) = true := decide_eq_true (by omega)
            have hs : Hid (stqs p0 (j + 1) = stq j (stqs p0 j)) := Lib.hid rfl
            have hb := stqs_bd _ B0.out j hj
            have hB := bnd_le j hj
            have hz := stqs_zs p0 j
            have hz2 := sumA_le j hj
            have hz3 := Z0.out
            generalize stqs p0 j = p at *
            obtain ⟨x, y, z⟩ := p
            unfold Bd at hb
            dsimp only at hb hz
            have hx1 : -35184372088832 ≤ x ∧ x ≤ 35184372088832 := by omega
            have hy1 : -35184372088832 ≤ y ∧ y ≤ 35184372088832 := by omega
            have hz1 : -17179869184 ≤ z ∧ z ≤ 18253611008 := by omega
            have ba := arcA_bd j
            have bx := prt_le j hx1.1 hx1.2
            have by' := prt_le j hy1.1 hy1.2
            have P1 := Lib.hid (fun w => part_any x j w (by omega) (by omega))
            have P2 := Lib.hid (fun w => part_any y j w (by omega) (by omega))
            have AA := Lib.hid (fun w => arc_any j w hlt)
            unfold stq at hs
            dsimp only at hs
            generalize prt x j = px at *
            generalize prt y j = py at *
            generalize arcA j = ar at *
            clear hb hB hz hz2 hz3 bM hzz hXp t5 HP
            by_cases hneg : 0 < y
            · rw [if_pos hneg] at hs
              go_wp2_with (first | (go_at_call 53; (with_reducible refine (P2.out _).mono ?_); rintro e w2 ⟨rfl, rfl⟩; (try dsimp only)) | (go_at_call 53; (with_reducible refine (P1.out _).mono ?_); rintro e w2 ⟨rfl, rfl⟩; (try dsimp only)) | (go_at_call 54; (with_reducible refine (AA.out _).mono ?_); rintro e w2 ⟨rfl, k1⟩; replace K := K.step k1; clear k1; (try clear ww); revert w2; intro ww K))
              exact ⟨⟨j + 1, by omega, by go_num, by rw [hs.out], by rw [hs.out], by rw [hs.out], K⟩, by simp [intOf]; omega⟩
            · rw [if_neg hneg] at hs
              have tz : decide (0 < y) = false := decide_eq_false hneg
              have e1 : x + -py = x - py := by omega
              have e2 : y - -px = y + px := by omega
              go_wp2_with (first | (go_at_call 53; (with_reducible refine (P2.out _).mono ?_); rintro e w2 ⟨rfl, rfl⟩; (try dsimp only)) | (go_at_call 53; (with_reducible refine (P1.out _).mono ?_); rintro e w2 ⟨rfl, rfl⟩; (try dsimp only)) | (go_at_call 54; (with_reducible refine (AA.out _).mono ?_); rintro e w2 ⟨rfl, k1⟩; replace K := K.step k1; clear k1; (try clear ww); revert w2; intro ww K))
              exact ⟨⟨j + 1, by omega, by go_num, by rw [hs.out]; try rw [← e1], by rw [hs.out]; try rw [← e2], by rw [hs.out], K⟩, by simp [intOf]; omega⟩
          · obtain rfl : j = 30 := by omega
            clear t5 bM
            have hz := hzz.out
            have hpx := hXp
            have hR2 : (stqs p0 30).x / 1073741824 * 652032874 + ((stqs p0 30).x % 1073741824 * 652032874 + 536870912) / 1073741824 = R := by rw [HP.out.2.2]; omega
            generalize stqs p0 30 = pp at *
            obtain ⟨px, py, pz⟩ := pp
            dsimp only at *
            go_wp2_with (first | (go_at_call 53; (with_reducible refine (SH.out _).mono ?_); rintro e w2 ⟨rfl, rfl⟩; (try dsimp only)))
            go_ret2
            exact ⟨ret_tup2 (v_int (by rw [HE.out.2, HP.out.2.1]; omega)) (v_int (by rw [← HE.out.1, ← HR.out])), K.below⟩
      · have AB := Lib.hid (fun w => abs31_any Y w (by omega) (by omega))
        have t5 : decide (X < 1099511627776) = false := decide_eq_false hc
        clear hge hc
        go_wp2_with (first | (go_at_call 52; (with_reducible refine (AB.out _).mono ?_); rintro e w2 ⟨rfl, rfl⟩; (try dsimp only)))
        go_loopw [6, 7, 8, 10] (fun x y z i wr => ∃ k : Nat, k ≤ 30 ∧ i = .int .i64 k ∧ x = .int .i64 (stqs p0 k).x ∧ y = .int .i64 (stqs p0 k).y ∧ z = .int .i64 (stqs p0 k).z ∧ St w.heap.size w [] Any wr) (fun _ _ _ i _ => 30 - (intOf i).toNat)
        case atStart => exact ⟨0, by omega, rfl, by rw [C0.out.1], by rw [C0.out.2.1], by rw [C0.out.2.2], K⟩
        case round =>
          clear K
          obtain ⟨j, hj, rfl, rfl, rfl, rfl, K⟩ := hrel
          by_cases hlt : j < 30
          · have ht : decide ((j : Int) < 30) = true := decide_eq_true (by omega)
            have hs : Hid (stqs p0 (j + 1) = stq j (stqs p0 j)) := Lib.hid rfl
            have hb := stqs_bd _ B0.out j hj
            have hB := bnd_le j hj
            have hz := stqs_zs p0 j
            have hz2 := sumA_le j hj
            have hz3 := Z0.out
            generalize stqs p0 j = p at *
            obtain ⟨x, y, z⟩ := p
            unfold Bd at hb
            dsimp only at hb hz
            have hx1 : -35184372088832 ≤ x ∧ x ≤ 35184372088832 := by omega
            have hy1 : -35184372088832 ≤ y ∧ y ≤ 35184372088832 := by omega
            have hz1 : -17179869184 ≤ z ∧ z ≤ 18253611008 := by omega
            have ba := arcA_bd j
            have bx := prt_le j hx1.1 hx1.2
            have by' := prt_le j hy1.1 hy1.2
            have P1 := Lib.hid (fun w => part_any x j w (by omega) (by omega))
            have P2 := Lib.hid (fun w => part_any y j w (by omega) (by omega))
            have AA := Lib.hid (fun w => arc_any j w hlt)
            unfold stq at hs
            dsimp only at hs
            generalize prt x j = px at *
            generalize prt y j = py at *
            generalize arcA j = ar at *
            clear hb hB hz hz2 hz3 bM hzz hXp t5 HP
            by_cases hneg : 0 < y
            · rw [if_pos hneg] at hs
              go_wp2_with (first | (go_at_call 53; (with_reducible refine (P2.out _).mono ?_); rintro e w2 ⟨rfl, rfl⟩; (try dsimp only)) | (go_at_call 53; (with_reducible refine (P1.out _).mono ?_); rintro e w2 ⟨rfl, rfl⟩; (try dsimp only)) | (go_at_call 54; (with_reducible refine (AA.out _).mono ?_); rintro e w2 ⟨rfl, k1⟩; replace K := K.step k1; clear k1; (try clear ww); revert w2; intro ww K))
              exact ⟨⟨j + 1, by omega, by go_num, by rw [hs.out], by rw [hs.out], by rw [hs.out], K⟩, by simp [intOf]; omega⟩
            · rw [if_neg hneg] at hs
              have tz : decide (0 < y) = false := decide_eq_false hneg
              have e1 : x + -py = x - py := by omega
              have e2 : y - -px = y + px := by omega
              go_wp2_with (first | (go_at_call 53; (with_reducible refine (P2.out _).mono ?_); rintro e w2 ⟨rfl, rfl⟩; (try dsimp only)) | (go_at_call 53; (with_reducible refine (P1.out _).mono ?_); rintro e w2 ⟨rfl, rfl⟩; (try dsimp only)) | (go_at_call 54; (with_reducible refine (AA.out _).mono ?_); rintro e w2 ⟨rfl, k1⟩; replace K := K.step k1; clear k1; (try clear ww); revert w2; intro ww K))
              exact ⟨⟨j + 1, by omega, by go_num, by rw [hs.out]; try rw [← e1], by rw [hs.out]; try rw [← e2], by rw [hs.out], K⟩, by simp [intOf]; omega⟩
          · obtain rfl : j = 30 := by omega
            clear t5 bM
            have hz := hzz.out
            have hpx := hXp
            have hR2 : (stqs p0 30).x / 1073741824 * 652032874 + ((stqs p0 30).x % 1073741824 * 652032874 + 536870912) / 1073741824 = R := by rw [HP.out.2.2]; omega
            generalize stqs p0 30 = pp at *
            obtain ⟨px, py, pz⟩ := pp
            dsimp only at *
            go_wp2_with (first | (go_at_call 53; (with_reducible refine (SH.out _).mono ?_); rintro e w2 ⟨rfl, rfl⟩; (try dsimp only)))
            go_ret2
            exact ⟨ret_tup2 (v_int (by rw [HE.out.2, HP.out.2.1]; omega)) (v_int (by rw [← HE.out.1, ← HR.out])), K.below⟩
set_option maxRecDepth 100000 in
set_option maxHeartbeats 4000000 in
theorem RArc_neg (x y A0 B0' A B : Int) (w : World) (hx : cut40 x = A0) (hy : cut40 y = B0') (b1 : -1099511627776 ≤ A0 ∧ A0 ≤ 1099511627776) (b2 : -1099511627776 ≤ B0' ∧ B0' ≤ 1099511627776) (n1 : -A0 = A) (n2 : -B0' = B) (hA : 0 ≤ A) (hM : mag A B ≤ 1099511627776) (hM1 : 1 ≤ mag A B) (t0 : (A0 == 0) = false) (t1 : decide (A0 < 0) = true) :
    Calls Try.prog 17 #[.int .i64 x, .int .i64 y] w fun e w' => e = .returned (.tuple #[.int .u32 (arcZ 2147483648 A B), .int .i64 (prt (arcR A B) (sclF 40 (mag A B)))]) ∧ Below w.heap.size w w' := by
  have K := St.start w
  have c1 := Lib.hid (cut_any x)
  have c2 := Lib.hid (cut_any y)
  rw [hx] at c1
  rw [hy] at c2
  clear hx hy
  have tm := Lib.hid (And.intro hM1 hM)
  have hA' := Lib.hid hA
  clear hM hM1 hA
  go_enter Try.func17, Try.ntmps17
  go_wp2_with (first | (go_at_call 51; (with_reducible refine (c1.out _).mono ?_); rintro e w2 ⟨rfl, rfl⟩; (try dsimp only)) | (go_at_call 51; (with_reducible refine (c2.out _).mono ?_); rintro e w2 ⟨rfl, rfl⟩; (try dsimp only)))
  go_loop [6, 7, 9] (fun x y n => ∃ k : Nat, sclAt A B k ∧ n = .int .i64 k ∧ x = .int .i64 (A * 2 ^ k) ∧ y = .int .i64 (B * 2 ^ k)) (fun _ _ n => 40 - (intOf n).toNat)
  case atStart => exact ⟨0, ⟨by omega, by simp⟩, rfl, by simp, by simp⟩
  case round =>
    obtain ⟨k, hk, rfl, rfl, rfl⟩ := hrel
    have hmm := mag_mul A B k
    by_cases hlt : mag (A * 2 ^ k) (B * 2 ^ k) < 1099511627776
    · have hn := Lib.hid (sclAt_next tm.out.1 hk hlt)
      have e1 : Hid (A * 2 ^ (k + 1) = 2 * (A * 2 ^ k)) := Lib.hid (by rw [Int.pow_succ, ← Int.mul_assoc, Int.mul_comm _ 2])
      have e2 : Hid (B * 2 ^ (k + 1) = 2 * (B * 2 ^ k)) := Lib.hid (by rw [Int.pow_succ, ← Int.mul_assoc, Int.mul_comm _ 2])
      have hX : 0 ≤ A * 2 ^ k := Int.mul_nonneg hA'.out (Int.le_of_lt (Int.pow_pos (by omega)))
      have hk40 := hn.out.1
      clear hk hmm
      generalize A * 2 ^ k = X at *
      generalize B * 2 ^ k = Y at *
      have hb : X < 1099511627776 ∧ Y < 1099511627776 ∧ -Y < 1099511627776 := by unfold mag at hlt; omega
      have AB := Lib.hid (fun w => abs31_any Y w (by omega) (by omega))
      have t4 : decide (X < 1099511627776) = true := decide_eq_true (by omega)
      have t5 : decide (max Y (-Y) < 1099511627776) = true := decide_eq_true (by omega)
      generalize max Y (-Y) = M at *
      clear hlt
      go_wp2_with (first | (go_at_call 52; (with_reducible refine (AB.out _).mono ?_); rintro e w2 ⟨rfl, rfl⟩; (try dsimp only)))
      exact ⟨⟨k + 1, hn.out.2, by go_num, by rw [e1.out], by rw [e2.out]⟩, by simp [intOf]; omega⟩
    · have hge : 1099511627776 ≤ mag (A * 2 ^ k) (B * 2 ^ k) := by omega
      have hX : 0 ≤ A * 2 ^ k := Int.mul_nonneg hA'.out (Int.le_of_lt (Int.pow_pos (by omega)))
      obtain ⟨S, hS⟩ : ∃ S, S = sclF 40 (mag A B) := ⟨_, rfl⟩
      obtain rfl : k = S := by rw [hS]; exact sclAt_stop hk hge
      have hSl : k ≤ 40 := hk.1
      have hst := arc_start hA'.out tm.out.2
      have hpx := arcP_bd hA'.out tm.out.2
      have hpr := arcR_bd hA'.out tm.out.2
      have eR : arcR A B = ((arcP A B).x * 652032874 + 536870912) / 1073741824 := rfl
      have eP : arcP A B = stqs ⟨A * 2 ^ k, B * 2 ^ k, 0⟩ 30 := by unfold arcP; rw [← hS]
      have eZ : arcZ 2147483648 A B = (2147483648 + (arcP A B).z) % 4294967296 := rfl
      have SH := Lib.hid (fun w => part_any (arcR A B) k w (by omega) hSl)
      have HE := Lib.hid (And.intro hS eZ)
      have bM : -(bnd 0) ≤ A * 2 ^ k ∧ A * 2 ^ k ≤ bnd 0 ∧ -(bnd 0) ≤ B * 2 ^ k ∧ B * 2 ^ k ≤ bnd 0 := by
        rw [← hS] at hst
        exact hst
      clear eZ hst hpr hk hmm hS hlt
      have e0 : bnd 0 = 2199023255552 := rfl
      rw [e0] at bM
      obtain ⟨R, hR⟩ : ∃ R, R = arcR A B := ⟨_, rfl⟩
      rw [← hR] at SH
      have HR := Lib.hid hR
      generalize A * 2 ^ k = X at *
      generalize B * 2 ^ k = Y at *
      obtain ⟨p0, hp0⟩ : ∃ p0 : Pt, p0 = ⟨X, Y, 2147483648⟩ := ⟨_, rfl⟩
      have B0 := Lib.hid (show Bd (bnd 0) p0 by rw [hp0]; exact bM)
      have Z0 := Lib.hid (show p0.z = 2147483648 by rw [hp0])
      have C0 := Lib.hid (show (stqs p0 0).x = X ∧ (stqs p0 0).y = Y ∧ (stqs p0 0).z = 2147483648 by rw [hp0]; exact ⟨rfl, rfl, rfl⟩)
      have eS := stqs_base 30 hp0 eP
      have HP := Lib.hid (show (arcP A B).x = (stqs p0 30).x ∧ 2147483648 + (arcP A B).z = (stqs p0 30).z ∧ R = ((stqs p0 30).x * 652032874 + 536870912) / 1073741824 from ⟨eS.1, eS.2, by rw [hR, eR, eS.1]⟩)
      have hXp : 0 ≤ (stqs p0 30).x ∧ (stqs p0 30).x ≤ 35184372088832 := by rw [← HP.out.1]; exact hpx
      have hzz := Lib.hid (show -2147483648 ≤ (stqs p0 30).z ∧ (stqs p0 30).z ≤ 4294967296 by
        have a := stqs_zs p0 30
        have b := sumA_le 30 (by omega)
        rw [Z0.out] at a
        omega)
      clear hp0 hR eR eP eS hpx
      by_cases hc : X < 1099511627776
      · have AB := Lib.hid (fun w => abs31_any Y w (by omega) (by omega))
        have t4 : decide (X < 1099511627776) = true := decide_eq_true hc
        have t5 : decide (max Y (-Y) < 1099511627776) = false := decide_eq_false (by unfold mag at hge; omega)
        generalize max Y (-Y) = M at *
        clear hge hc
        go_wp2_with (first | (go_at_call 52; (with_reducible refine (AB.out _).mono ?_); rintro e w2 ⟨rfl, rfl⟩; (try dsimp only)))
        go_loopw [6, 7, 8, 10] (fun x y z i wr => ∃ k : Nat, k ≤ 30 ∧ i = .int .i64 k ∧ x = .int .i64 (stqs p0 k).x ∧ y = .int .i64 (stqs p0 k).y ∧ z = .int .i64 (stqs p0 k).z ∧ St w.heap.size w [] Any wr) (fun _ _ _ i _ => 30 - (intOf i).toNat)
        case atStart => exact ⟨0, by omega, rfl, by rw [C0.out.1], by rw [C0.out.2.1], by rw [C0.out.2.2], K⟩
        case round =>
          clear K
          obtain ⟨j, hj, rfl, rfl, rfl, rfl, K⟩ := hrel
          by_cases hlt : j < 30
          · have ht : decide ((j : Int) < 30) = true := decide_eq_true (by omega)
            have hs : Hid (stqs p0 (j + 1) = stq j (stqs p0 j)) := Lib.hid rfl
            have hb := stqs_bd _ B0.out j hj
            have hB := bnd_le j hj
            have hz := stqs_zs p0 j
            have hz2 := sumA_le j hj
            have hz3 := Z0.out
            generalize stqs p0 j = p at *
            obtain ⟨x, y, z⟩ := p
            unfold Bd at hb
            dsimp only at hb hz
            have hx1 : -35184372088832 ≤ x ∧ x ≤ 35184372088832 := by omega
            have hy1 : -35184372088832 ≤ y ∧ y ≤ 35184372088832 := by omega
            have hz1 : -17179869184 ≤ z ∧ z ≤ 18253611008 := by omega
            have ba := arcA_bd j
            have bx := prt_le j hx1.1 hx1.2
            have by' := prt_le j hy1.1 hy1.2
            have P1 := Lib.hid (fun w => part_any x j w (by omega) (by omega))
            have P2 := Lib.hid (fun w => part_any y j w (by omega) (by omega))
            have AA := Lib.hid (fun w => arc_any j w hlt)
            unfold stq at hs
            dsimp only at hs
            generalize prt x j = px at *
            generalize prt y j = py at *
            generalize arcA j = ar at *
            clear hb hB hz hz2 hz3 bM hzz hXp t5 HP
            by_cases hneg : 0 < y
            · rw [if_pos hneg] at hs
              go_wp2_with (first | (go_at_call 53; (with_reducible refine (P2.out _).mono ?_); rintro e w2 ⟨rfl, rfl⟩; (try dsimp only)) | (go_at_call 53; (with_reducible refine (P1.out _).mono ?_); rintro e w2 ⟨rfl, rfl⟩; (try dsimp only)) | (go_at_call 54; (with_reducible refine (AA.out _).mono ?_); rintro e w2 ⟨rfl, k1⟩; replace K := K.step k1; clear k1; (try clear ww); revert w2; intro ww K))
              exact ⟨⟨j + 1, by omega, by go_num, by rw [hs.out], by rw [hs.out], by rw [hs.out], K⟩, by simp [intOf]; omega⟩
            · rw [if_neg hneg] at hs
              have tz : decide (0 < y) = false := decide_eq_false hneg
              have e1 : x + -py = x - py := by omega
              have e2 : y - -px = y + px := by omega
              go_wp2_with (first | (go_at_call 53; (with_reducible refine (P2.out _).mono ?_); rintro e w2 ⟨rfl, rfl⟩; (try dsimp only)) | (go_at_call 53; (with_reducible refine (P1.out _).mono ?_); rintro e w2 ⟨rfl, rfl⟩; (try dsimp only)) | (go_at_call 54; (with_reducible refine (AA.out _).mono ?_); rintro e w2 ⟨rfl, k1⟩; replace K := K.step k1; clear k1; (try clear ww); revert w2; intro ww K))
              exact ⟨⟨j + 1, by omega, by go_num, by rw [hs.out]; try rw [← e1], by rw [hs.out]; try rw [← e2], by rw [hs.out], K⟩, by simp [intOf]; omega⟩
          · obtain rfl : j = 30 := by omega
            clear t5 bM
            have hz := hzz.out
            have hpx := hXp
            have hR2 : (stqs p0 30).x / 1073741824 * 652032874 + ((stqs p0 30).x % 1073741824 * 652032874 + 536870912) / 1073741824 = R := by rw [HP.out.2.2]; omega
            generalize stqs p0 30 = pp at *
            obtain ⟨px, py, pz⟩ := pp
            dsimp only at *
            go_wp2_with (first | (go_at_call 53; (with_reducible refine (SH.out _).mono ?_); rintro e w2 ⟨rfl, rfl⟩; (try dsimp only)))
            go_ret2
            exact ⟨ret_tup2 (v_int (by rw [HE.out.2, HP.out.2.1]; omega)) (v_int (by rw [← HE.out.1, ← HR.out])), K.below⟩
      · have AB := Lib.hid (fun w => abs31_any Y w (by omega) (by omega))
        have t5 : decide (X < 1099511627776) = false := decide_eq_false hc
        clear hge hc
        go_wp2_with (first | (go_at_call 52; (with_reducible refine (AB.out _).mono ?_); rintro e w2 ⟨rfl, rfl⟩; (try dsimp only)))
        go_loopw [6, 7, 8, 10] (fun x y z i wr => ∃ k : Nat, k ≤ 30 ∧ i = .int .i64 k ∧ x = .int .i64 (stqs p0 k).x ∧ y = .int .i64 (stqs p0 k).y ∧ z = .int .i64 (stqs p0 k).z ∧ St w.heap.size w [] Any wr) (fun _ _ _ i _ => 30 - (intOf i).toNat)
        case atStart => exact ⟨0, by omega, rfl, by rw [C0.out.1], by rw [C0.out.2.1], by rw [C0.out.2.2], K⟩
        case round =>
          clear K
          obtain ⟨j, hj, rfl, rfl, rfl, rfl, K⟩ := hrel
          by_cases hlt : j < 30
          · have ht : decide ((j : Int) < 30) = true := decide_eq_true (by omega)
            have hs : Hid (stqs p0 (j + 1) = stq j (stqs p0 j)) := Lib.hid rfl
            have hb := stqs_bd _ B0.out j hj
            have hB := bnd_le j hj
            have hz := stqs_zs p0 j
            have hz2 := sumA_le j hj
            have hz3 := Z0.out
            generalize stqs p0 j = p at *
            obtain ⟨x, y, z⟩ := p
            unfold Bd at hb
            dsimp only at hb hz
            have hx1 : -35184372088832 ≤ x ∧ x ≤ 35184372088832 := by omega
            have hy1 : -35184372088832 ≤ y ∧ y ≤ 35184372088832 := by omega
            have hz1 : -17179869184 ≤ z ∧ z ≤ 18253611008 := by omega
            have ba := arcA_bd j
            have bx := prt_le j hx1.1 hx1.2
            have by' := prt_le j hy1.1 hy1.2
            have P1 := Lib.hid (fun w => part_any x j w (by omega) (by omega))
            have P2 := Lib.hid (fun w => part_any y j w (by omega) (by omega))
            have AA := Lib.hid (fun w => arc_any j w hlt)
            unfold stq at hs
            dsimp only at hs
            generalize prt x j = px at *
            generalize prt y j = py at *
            generalize arcA j = ar at *
            clear hb hB hz hz2 hz3 bM hzz hXp t5 HP
            by_cases hneg : 0 < y
            · rw [if_pos hneg] at hs
              go_wp2_with (first | (go_at_call 53; (with_reducible refine (P2.out _).mono ?_); rintro e w2 ⟨rfl, rfl⟩; (try dsimp only)) | (go_at_call 53; (with_reducible refine (P1.out _).mono ?_); rintro e w2 ⟨rfl, rfl⟩; (try dsimp only)) | (go_at_call 54; (with_reducible refine (AA.out _).mono ?_); rintro e w2 ⟨rfl, k1⟩; replace K := K.step k1; clear k1; (try clear ww); revert w2; intro ww K))
              exact ⟨⟨j + 1, by omega, by go_num, by rw [hs.out], by rw [hs.out], by rw [hs.out], K⟩, by simp [intOf]; omega⟩
            · rw [if_neg hneg] at hs
              have tz : decide (0 < y) = false := decide_eq_false hneg
              have e1 : x + -py = x - py := by omega
              have e2 : y - -px = y + px := by omega
              go_wp2_with (first | (go_at_call 53; (with_reducible refine (P2.out _).mono ?_); rintro e w2 ⟨rfl, rfl⟩; (try dsimp only)) | (go_at_call 53; (with_reducible refine (P1.out _).mono ?_); rintro e w2 ⟨rfl, rfl⟩; (try dsimp only)) | (go_at_call 54; (with_reducible refine (AA.out _).mono ?_); rintro e w2 ⟨rfl, k1⟩; replace K := K.step k1; clear k1; (try clear ww); revert w2; intro ww K))
              exact ⟨⟨j + 1, by omega, by go_num, by rw [hs.out]; try rw [← e1], by rw [hs.out]; try rw [← e2], by rw [hs.out], K⟩, by simp [intOf]; omega⟩
          · obtain rfl : j = 30 := by omega
            clear t5 bM
            have hz := hzz.out
            have hpx := hXp
            have hR2 : (stqs p0 30).x / 1073741824 * 652032874 + ((stqs p0 30).x % 1073741824 * 652032874 + 536870912) / 1073741824 = R := by rw [HP.out.2.2]; omega
            generalize stqs p0 30 = pp at *
            obtain ⟨px, py, pz⟩ := pp
            dsimp only at *
            go_wp2_with (first | (go_at_call 53; (with_reducible refine (SH.out _).mono ?_); rintro e w2 ⟨rfl, rfl⟩; (try dsimp only)))
            go_ret2
            exact ⟨ret_tup2 (v_int (by rw [HE.out.2, HP.out.2.1]; omega)) (v_int (by rw [← HE.out.1, ← HR.out])), K.below⟩
set_option maxRecDepth 100000 in
theorem RArc_none (x y : Int) (w : World) (hx : cut40 x = 0) (hy : cut40 y = 0) :
    Calls Try.prog 17 #[.int .i64 x, .int .i64 y] w fun e w' => e = .returned (.tuple #[.int .u32 0, .int .i64 0]) ∧ Below w.heap.size w w' := by
  have K := St.start w
  have c1 := Lib.hid (cut_any x)
  have c2 := Lib.hid (cut_any y)
  rw [hx] at c1
  rw [hy] at c2
  clear hx hy
  go_enter Try.func17, Try.ntmps17
  go_wp2_with (first | (go_at_call 51; (with_reducible refine (c1.out _).mono ?_); rintro e w2 ⟨rfl, rfl⟩; (try dsimp only)) | (go_at_call 51; (with_reducible refine (c2.out _).mono ?_); rintro e w2 ⟨rfl, rfl⟩; (try dsimp only)))
  go_ret2
  exact ⟨rfl, K.below⟩
theorem RArc_any (x y : Int) (w : World) :
    Calls Try.prog 17 #[.int .i64 x, .int .i64 y] w fun e w' => e = .returned (.tuple #[.int .u32 (arcA2 x y).1, .int .i64 (arcA2 x y).2]) ∧ Below w.heap.size w w' := by
  have b1 := cut40_bd x
  have b2 := cut40_bd y
  unfold arcA2
  by_cases h0 : cut40 x = 0
  · by_cases h1 : cut40 y = 0
    · rw [if_pos ⟨h0, h1⟩]
      exact RArc_none x y w h0 h1
    · rw [if_neg (fun h => h1 h.2), if_neg (by omega)]
      have hm := mag_bd (A := cut40 x) (B := cut40 y) (by omega) b2 (.inr h1)
      exact RArc_nil x y _ _ w rfl rfl (show 0 ≤ cut40 x by omega) hm.1 hm.2 (by simpa using h0) (by simpa using h1)
  · rw [if_neg (fun h => h0 h.1)]
    by_cases h2 : cut40 x < 0
    · rw [if_pos h2]
      have hm := mag_bd (A := -(cut40 x)) (B := -(cut40 y)) (by omega) (by omega) (.inl (by omega))
      exact RArc_neg x y _ _ _ _ w rfl rfl b1 b2 rfl rfl (show 0 ≤ -(cut40 x) by omega) hm.1 hm.2 (by simpa using h0) (decide_eq_true h2)
    · rw [if_neg h2]
      have hm := mag_bd (A := cut40 x) (B := cut40 y) (by omega) b2 (.inl h0)
      exact RArc_pos x y _ _ w rfl rfl (show 0 ≤ cut40 x by omega) hm.1 hm.2 (by simpa using h0)
end Go.Proofs.Ytnphpnkfdnnmbaa
