/-
  The walk of turning a place, and 'works' of chapter 31.
-/
import Derived.Test.YtnphpnkfdnnmbaaAs31
namespace Go.Proofs.Ytnphpnkfdnnmbaa
open Go.RowKit
attribute [local irreducible] wpHeld wpList
set_option linter.unusedVariables false
theorem mul_abs {x y X Y : Int} (h1 : -X ≤ x) (h2 : x ≤ X) (h3 : -Y ≤ y) (h4 : y ≤ Y) : -(X * Y) ≤ x * y ∧ x * y ≤ X * Y := by
  have a : x.natAbs ≤ X.natAbs := by omega
  have b : y.natAbs ≤ Y.natAbs := by omega
  have c := Nat.mul_le_mul a b
  rw [← Int.natAbs_mul, ← Int.natAbs_mul] at c
  have hX : 0 ≤ X := by omega
  have hY : 0 ≤ Y := by omega
  have d := Int.mul_nonneg hX hY
  omega
def cut30 (x : Int) : Int := max (-1073741824) (min x 1073741824)
theorem cut30_bd (x : Int) : -1073741824 ≤ cut30 x ∧ cut30 x ≤ 1073741824 := by unfold cut30; omega
def rotP (x y : Int) (s c : Int) : Int := (divM (x * c - y * s) 1073741824 2).1
def rotQ (x y : Int) (s c : Int) : Int := (divM (x * s + y * c) 1073741824 2).1
set_option maxRecDepth 100000 in
set_option maxHeartbeats 4000000 in
theorem Rotate_any (x y a : Int) (w : World) (ha : 0 ≤ a ∧ a ≤ 4294967295) :
    Calls Try.prog 18 #[.int .i64 x, .int .i64 y, .int .u32 a] w fun e w' => e = .returned (.tuple #[.int .i64 (rotP (cut30 x) (cut30 y) (sinA a).1 (sinA a).2), .int .i64 (rotQ (cut30 x) (cut30 y) (sinA a).1 (sinA a).2)]) ∧ Below w.heap.size w w' := by
  have K := St.start w
  have m1 : max (-1073741824) (min x 1073741824) = cut30 x := rfl
  have m2 : max (-1073741824) (min y 1073741824) = cut30 y := rfl
  have bx := cut30_bd x
  have by' := cut30_bd y
  have bs := sinA_bd a
  have S1 := Lib.hid (fun w => SinCos_any a w ha)
  generalize cut30 x = X at *
  generalize cut30 y = Y at *
  generalize sinA a = sc at *
  obtain ⟨s, c⟩ := sc
  dsimp only at *
  have p1 := mul_abs bx.1 bx.2 bs.2.1 bs.2.2
  have p2 := mul_abs by'.1 by'.2 bs.1.1 bs.1.2
  have p3 := mul_abs bx.1 bx.2 bs.1.1 bs.1.2
  have p4 := mul_abs by'.1 by'.2 bs.2.1 bs.2.2
  have M1 := Mul_at X c (X * c) (by unfold in64; simp; omega) rfl
  have M2 := Mul_at Y s (Y * s) (by unfold in64; simp; omega) rfl
  have M3 := Mul_at X s (X * s) (by unfold in64; simp; omega) rfl
  have M4 := Mul_at Y c (Y * c) (by unfold in64; simp; omega) rfl
  have ep : rotP X Y s c = (divM (X * c + -(Y * s)) 1073741824 2).1 := rfl
  have eq : rotQ X Y s c = (divM (X * s + Y * c) 1073741824 2).1 := rfl
  rw [ep, eq]
  clear ep eq
  generalize X * c = z1 at *
  generalize Y * s = z2 at *
  generalize X * s = z3 at *
  generalize Y * c = z4 at *
  have N1 := NegW_at z2 (-z2) (fits_in (by omega)) (wrap128_in (fits_in (by omega)))
  have A1 := AddW_at z1 (-z2) (z1 + -z2) true (by rw [fits_in (by omega), fits_in (by omega)]; rfl) (wrap128_in (fits_in (by omega))) (fits_in (by omega))
  have A2 := AddW_at z3 z4 (z3 + z4) true (by rw [fits_in (by omega), fits_in (by omega)]; rfl) (wrap128_in (fits_in (by omega))) (fits_in (by omega))
  have D1 := Lib.hid (fun w => Div_wide (z1 + -z2) 1073741824 2 w (by omega) (by omega) (by decide) (by decide))
  have D2 := Lib.hid (fun w => Div_wide (z3 + z4) 1073741824 2 w (by omega) (by omega) (by decide) (by decide))
  clear p1 p2 p3 p4
  generalize z1 + -z2 = zp at *
  generalize z3 + z4 = zq at *
  go_enter Try.func18, Try.ntmps18
  go_wp2_with (first | go_big_skip | ((with_reducible refine at_load ?_); first | (refine wm_load (cs := ?_) (t := ?_) (n := ?_) K rfl _ _ rfl rfl ?_ ?_ ?_ ?_; rotate_left 2; (repeat (first | exact At.hd | refine At.tl ?_)); rotate_left; (first | (with_reducible exact row31) | (with_reducible exact row33) | (with_reducible exact row42) | (with_reducible exact row45) | (with_reducible exact row59) | (with_reducible exact row69) | (with_reducible exact row78)); (solve | (with_reducible exact wI_size _) | (with_reducible exact numA_size _ _) | (with_reducible exact bitsA_size _) | (with_reducible exact numI_size _) | exact rfl | simp)) | (refine wm_own (cs := ?_) (t := ?_) (v := ?_) K rfl _ _ rfl rfl ?_ ?_ ?_ ?_; rotate_left 2; (repeat (first | exact At.hd | refine At.tl ?_)); rotate_left; (first | (with_reducible exact wI_hi _) | (with_reducible exact wI_lo _) | (with_reducible exact numA_sign _ _) | (with_reducible exact numA_get _ _ _ (by omega)) | (with_reducible exact bitsA_get _ _ (by omega)) | exact rfl | assumption); (first | (with_reducible exact one2) | (with_reducible exact one3) | (with_reducible exact one4) | (with_reducible exact one76) | (with_reducible exact one116))) | (refine wm_cell (v := ?_) rfl _ _ rfl rfl ?_ ?_ ?_; rotate_left; (first | assumption | exact (K.below.cell (by assumption)).trans (by assumption)); (first | (with_reducible exact one2) | (with_reducible exact one3) | (with_reducible exact one4) | (with_reducible exact one76) | (with_reducible exact one116)))) | ((with_reducible refine at_store ?_); first | (refine wm_store (L' := ?_) (cs := ?_) (t := ?_) (n := ?_) K rfl _ _ _ rfl rfl rfl rfl ?_ ?_ ?_ ?_ ?_ ?_; rotate_left 3; (repeat (first | exact Put.hd | (refine Put.tl (L' := ?_) ?_; rotate_left))); rotate_left; (first | (with_reducible exact row31) | (with_reducible exact row33) | (with_reducible exact row42) | (with_reducible exact row45) | (with_reducible exact row59) | (with_reducible exact row69) | (with_reducible exact row78)); (solve | (with_reducible exact wI_size _) | (with_reducible exact numA_size _ _) | (with_reducible exact bitsA_size _) | (with_reducible exact numI_size _) | exact rfl | simp); (solve | (with_reducible exact wI_size _) | (with_reducible exact numA_size _ _) | (with_reducible exact bitsA_size _) | (with_reducible exact numI_size _) | exact rfl | simp); (solve | (with_reducible exact wI_ones _) | (with_reducible exact nOnes _ _) | (with_reducible exact bOnes _) | (with_reducible exact iOnes _) | exact rfl | simp [Ones, Value.oneCell']); (try clear K); (try clear ww); intro ww K; (try simp [go_sem] at K)) | (refine wm_put (L' := ?_) (cs := ?_) (new := ?_) (t := ?_) K rfl _ _ _ rfl rfl rfl rfl ?_ ?_ ?_ ?_ rfl rfl ?_; rotate_left 4; (repeat (first | exact Put.hd | (refine Put.tl (L' := ?_) ?_; rotate_left))); (solve | (rw [numA_size]; omega) | (rw [bitsA_size]; omega) | (rw [Array.size_setIfInBounds, numA_size]; omega) | (simp only [List.size_toArray, nums_length]; first | assumption | omega) | (simp only [List.size_toArray, nums_length, List.length_set]; first | assumption | omega) | simp | omega | (simp only [List.size_toArray, nums_length]; omega) | assumption); (solve | exact numA_setSign _ _ _ | exact bset_zero _ _ _ | exact bset_one | exact qset _ _ (by omega) | exact nums_set _ _ _ _ | simp only [List.setIfInBounds_toArray, List.set_cons_zero, List.set_cons_succ] | (simp only [List.setIfInBounds_toArray, List.set_cons_zero, List.set_cons_succ]; exact rfl) | exact rfl); (first | (with_reducible exact one2) | (with_reducible exact one3) | (with_reducible exact one4) | (with_reducible exact one76) | (with_reducible exact one116)); (try clear K); (try clear ww); intro ww K; (try simp [go_sem] at K))) | (first | ((fail_if_success (have _h := b10)); first | ((with_reducible refine at_box ?_); refine wm_box K rfl _ _ rfl rfl rfl ?_; (try clear K); (try clear ww); intro b10 ww K; (try simp [go_sem, Value.cells] at K)) | ((with_reducible refine at_alloc ?_); refine wm_alloc (v := ?_) (cs := ?_) K rfl _ rfl ?_ ?_ ?_; rotate_left; (first | (with_reducible exact z0N) | (with_reducible exact z0B) | (with_reducible exact zero2) | (with_reducible exact zero31) | (with_reducible exact zero33) | (with_reducible exact zero42) | (with_reducible exact zero45) | (with_reducible exact zero59) | (with_reducible exact zero69) | (with_reducible exact zero76) | (with_reducible exact zero78)); rotate_left; exact rfl; (try clear K); (try clear ww); intro b10 ww K; (try simp [go_sem, Value.cells] at K))) | ((fail_if_success (have _h := b12)); first | ((with_reducible refine at_box ?_); refine wm_box K rfl _ _ rfl rfl rfl ?_; (try clear K); (try clear ww); intro b12 ww K; (try simp [go_sem, Value.cells] at K)) | ((with_reducible refine at_alloc ?_); refine wm_alloc (v := ?_) (cs := ?_) K rfl _ rfl ?_ ?_ ?_; rotate_left; (first | (with_reducible exact z0N) | (with_reducible exact z0B) | (with_reducible exact zero2) | (with_reducible exact zero31) | (with_reducible exact zero33) | (with_reducible exact zero42) | (with_reducible exact zero45) | (with_reducible exact zero59) | (with_reducible exact zero69) | (with_reducible exact zero76) | (with_reducible exact zero78)); rotate_left; exact rfl; (try clear K); (try clear ww); intro b12 ww K; (try simp [go_sem, Value.cells] at K)))) | (go_at_call 13; (with_reducible refine (S1.out _).mono ?_); rintro e w2 ⟨rfl, k1⟩; replace K := K.step k1; clear k1; (try clear ww); revert w2; intro ww K) | (go_at_call 56; (with_reducible refine (M1.out _).mono ?_); rintro e w2 ⟨rfl, k1⟩; replace K := K.step k1; clear k1; (try clear ww); revert w2; intro ww K) | (go_at_call 56; (with_reducible refine (M2.out _).mono ?_); rintro e w2 ⟨rfl, k1⟩; replace K := K.step k1; clear k1; (try clear ww); revert w2; intro ww K) | (go_at_call 56; (with_reducible refine (M3.out _).mono ?_); rintro e w2 ⟨rfl, k1⟩; replace K := K.step k1; clear k1; (try clear ww); revert w2; intro ww K) | (go_at_call 56; (with_reducible refine (M4.out _).mono ?_); rintro e w2 ⟨rfl, k1⟩; replace K := K.step k1; clear k1; (try clear ww); revert w2; intro ww K) | (go_at_call 57; (with_reducible refine (N1.out _).mono ?_); rintro e w2 ⟨rfl, k1⟩; replace K := K.step k1; clear k1; (try clear ww); revert w2; intro ww K) | (go_at_call 55; (with_reducible refine (A1.out _).mono ?_); rintro e w2 ⟨rfl, k1⟩; replace K := K.step k1; clear k1; (try clear ww); revert w2; intro ww K) | (go_at_call 55; (with_reducible refine (A2.out _).mono ?_); rintro e w2 ⟨rfl, k1⟩; replace K := K.step k1; clear k1; (try clear ww); revert w2; intro ww K) | (go_at_call 58; (with_reducible refine (D1.out _).mono ?_); rintro e w2 ⟨rfl, k1⟩; replace K := K.step k1; clear k1; (try clear ww); revert w2; intro ww K) | (go_at_call 58; (with_reducible refine (D2.out _).mono ?_); rintro e w2 ⟨rfl, k1⟩; replace K := K.step k1; clear k1; (try clear ww); revert w2; intro ww K))
  go_ret2
  exact ⟨rfl, K.below⟩
theorem near_any (x a far : Int) (r : Bool) (w : World) (h1 : -2305843009213693952 ≤ x) (h2 : x ≤ 2305843009213693952) (h3 : -2305843009213693952 ≤ a) (h4 : a ≤ 2305843009213693952) (hr : (decide (x - a ≤ far) && decide (a - x ≤ far)) = r) :
    Calls Try.prog 49 #[.int .i64 x, .int .i64 a, .int .i64 far] w fun e w' => e = .returned (.bool r) ∧ w = w' := by
  subst hr
  by_cases h : x - a ≤ far
  · rw [decide_eq_true h, Bool.true_and]
    go_enter Try.func49, Try.ntmps49
    go_wp2
    go_ret
    exact ⟨rfl, rfl⟩
  · have t : decide (x - a ≤ far) = false := decide_eq_false h
    rw [t, Bool.false_and]
    go_enter Try.func49, Try.ntmps49
    go_wp2
    go_ret
    exact ⟨rfl, rfl⟩
def nearB (x a : Int) : Bool := decide (-2305843009213693952 ≤ x) && decide (x ≤ 2305843009213693952) && decide (-2305843009213693952 ≤ a) && decide (a ≤ 2305843009213693952) && (decide (x - a ≤ 64) && decide (a - x ≤ 64))
theorem near_yes (x a : Int) (h : nearB x a = true) : Hid (∀ w, Calls Try.prog 49 #[.int .i64 x, .int .i64 a, .int .i64 64] w fun e w' => e = .returned (.bool true) ∧ w = w') := Lib.hid (fun w => by
  unfold nearB at h
  simp only [Bool.and_eq_true, decide_eq_true_eq] at h
  exact near_any x a 64 true w h.1.1.1.1 h.1.1.1.2 h.1.1.2 h.1.2 (by simp; omega))
theorem SinCos_at (a s c : Int) (h : (decide (0 ≤ a) && decide (a ≤ 4294967295) && decide (sinA a = (s, c))) = true) : Hid (∀ w, Calls Try.prog 13 #[.int .u32 a] w fun e w' => e = .returned (.tuple #[.int .i64 s, .int .i64 c]) ∧ Below w.heap.size w w') := Lib.hid (fun w => by
  simp only [Bool.and_eq_true, decide_eq_true_eq] at h
  have := SinCos_any a w h.1
  rwa [h.2] at this)
theorem Arc_at (x y a r : Int) (h : decide (arcA2 x y = (a, r)) = true) : Hid (∀ w, Calls Try.prog 16 #[.int .i64 x, .int .i64 y] w fun e w' => e = .returned (.tuple #[.int .u32 a, .int .i64 r]) ∧ Below w.heap.size w w') := Lib.hid (fun w => by
  have := Arc_any x y w
  rwa [of_decide_eq_true h] at this)
set_option maxRecDepth 100000 in
set_option maxHeartbeats 4000000 in
theorem works_any (w : World) :
    Calls Try.prog 15 #[] w fun e w' => e = .returned (.bool true) ∧ Below w.heap.size w w' := by
  have K := St.start w
  have s1 := SinCos_at 536870912 759250122 759250127 (by decide +kernel)
  have s2 := SinCos_at 0 5 1073741824 (by decide +kernel)
  have a1 := Arc_at 300 400 633866811 500 (by decide +kernel)
  have a2 := Arc_at 0 (-7) 3221225471 7 (by decide +kernel)
  have r1 : Hid (∀ w, Calls Try.prog 18 #[.int .i64 1000, .int .i64 0, .int .u32 1073741824] w fun e w' => e = .returned (.tuple #[.int .i64 0, .int .i64 1000]) ∧ Below w.heap.size w w') := Lib.hid (fun w => by
    have := Rotate_any 1000 0 1073741824 w (by decide)
    have e1 : rotP (cut30 1000) (cut30 0) (sinA 1073741824).1 (sinA 1073741824).2 = 0 := by decide +kernel
    have e2 : rotQ (cut30 1000) (cut30 0) (sinA 1073741824).1 (sinA 1073741824).2 = 1000 := by decide +kernel
    rwa [e1, e2] at this)
  have n1 := near_yes 759250122 759250125 (by decide)
  have n2 := near_yes 759250127 759250125 (by decide)
  have n3 := near_yes 5 0 (by decide)
  have n4 := near_yes 1073741824 1073741824 (by decide)
  have n5 := near_yes 633866811 633866811 (by decide)
  have n6 := near_yes 3221225471 3221225472 (by decide)
  go_enter Try.func15, Try.ntmps15
  go_wp2_with (first | (go_at_call 13; (with_reducible refine (s1.out _).mono ?_); rintro e w2 ⟨rfl, k1⟩; replace K := K.step k1; clear k1; (try clear ww); revert w2; intro ww K) | (go_at_call 13; (with_reducible refine (s2.out _).mono ?_); rintro e w2 ⟨rfl, k1⟩; replace K := K.step k1; clear k1; (try clear ww); revert w2; intro ww K) | (go_at_call 16; (with_reducible refine (a1.out _).mono ?_); rintro e w2 ⟨rfl, k1⟩; replace K := K.step k1; clear k1; (try clear ww); revert w2; intro ww K) | (go_at_call 16; (with_reducible refine (a2.out _).mono ?_); rintro e w2 ⟨rfl, k1⟩; replace K := K.step k1; clear k1; (try clear ww); revert w2; intro ww K) | (go_at_call 18; (with_reducible refine (r1.out _).mono ?_); rintro e w2 ⟨rfl, k1⟩; replace K := K.step k1; clear k1; (try clear ww); revert w2; intro ww K) | (go_at_call 49; (with_reducible refine (n1.out _).mono ?_); rintro e w2 ⟨rfl, rfl⟩; (try dsimp only)) | (go_at_call 49; (with_reducible refine (n2.out _).mono ?_); rintro e w2 ⟨rfl, rfl⟩; (try dsimp only)) | (go_at_call 49; (with_reducible refine (n3.out _).mono ?_); rintro e w2 ⟨rfl, rfl⟩; (try dsimp only)) | (go_at_call 49; (with_reducible refine (n4.out _).mono ?_); rintro e w2 ⟨rfl, rfl⟩; (try dsimp only)) | (go_at_call 49; (with_reducible refine (n5.out _).mono ?_); rintro e w2 ⟨rfl, rfl⟩; (try dsimp only)) | (go_at_call 49; (with_reducible refine (n6.out _).mono ?_); rintro e w2 ⟨rfl, rfl⟩; (try dsimp only)))
  go_ret
  exact ⟨rfl, K.below⟩
set_option maxRecDepth 100000 in
theorem walk_TrigTurns (a : Int) (w0 : (Lit.int .u32 a).wf = true) (w : World) :
    Calls Try.prog 3 #[.int .u32 a] w fun e w' => e = .returned (.bool true) ∧ Below w.heap.size w w' := by
  have K := St.start w
  have hb := bounds_u32 w0
  have S1 := Lib.hid (fun w => SinCos_any a w (by omega))
  have S2 := Lib.hid (fun w => RSinCos_any a w (by omega))
  have WK := Lib.hid works_any
  generalize sinA a = sc at *
  obtain ⟨s, c⟩ := sc
  go_enter Try.func3, Try.ntmps3
  go_wp2_with (first | (go_at_call 13; (with_reducible refine (S1.out _).mono ?_); rintro e w2 ⟨rfl, k1⟩; replace K := K.step k1; clear k1; (try clear ww); revert w2; intro ww K) | (go_at_call 14; (with_reducible refine (S2.out _).mono ?_); rintro e w2 ⟨rfl, k1⟩; replace K := K.step k1; clear k1; (try clear ww); revert w2; intro ww K) | (go_at_call 15; (with_reducible refine (WK.out _).mono ?_); rintro e w2 ⟨rfl, k1⟩; replace K := K.step k1; clear k1; (try clear ww); revert w2; intro ww K))
  go_ret
  exact ⟨rfl, K.below⟩
set_option maxRecDepth 100000 in
theorem walk_TrigArcs (x y : Int) (w0 : (Lit.int .i64 x).wf = true) (w1 : (Lit.int .i64 y).wf = true) (w : World) :
    Calls Try.prog 5 #[.int .i64 x, .int .i64 y] w fun e w' => e = .returned (.bool true) ∧ Below w.heap.size w w' := by
  have K := St.start w
  have S1 := Lib.hid (fun w => Arc_any x y w)
  have S2 := Lib.hid (fun w => RArc_any x y w)
  have WK := Lib.hid works_any
  generalize arcA2 x y = sc at *
  obtain ⟨s, c⟩ := sc
  clear w0 w1
  go_enter Try.func5, Try.ntmps5
  go_wp2_with (first | (go_at_call 16; (with_reducible refine (S1.out _).mono ?_); rintro e w2 ⟨rfl, k1⟩; replace K := K.step k1; clear k1; (try clear ww); revert w2; intro ww K) | (go_at_call 17; (with_reducible refine (S2.out _).mono ?_); rintro e w2 ⟨rfl, k1⟩; replace K := K.step k1; clear k1; (try clear ww); revert w2; intro ww K) | (go_at_call 15; (with_reducible refine (WK.out _).mono ?_); rintro e w2 ⟨rfl, k1⟩; replace K := K.step k1; clear k1; (try clear ww); revert w2; intro ww K))
  go_ret
  exact ⟨rfl, K.below⟩
set_option maxRecDepth 100000 in
theorem walk_TrigQuarters (a : Int) (w0 : (Lit.int .u32 a).wf = true) (w : World) :
    Calls Try.prog 4 #[.int .u32 a] w fun e w' => e = .returned (.bool true) ∧ Below w.heap.size w w' := by
  have K := St.start w
  have hb := bounds_u32 w0
  have S1 := Lib.hid (fun w => SinCos_any a w (by omega))
  have S2 := Lib.hid (fun w => SinCos_any ((a + 1073741824) % 4294967296) w (by omega))
  have S3 := Lib.hid (fun w => SinCos_any ((a + 2147483648) % 4294967296) w (by omega))
  rw [sinA_quarter a (by omega)] at S2
  rw [sinA_half a (by omega)] at S3
  have hs := sinA_bd a
  have WK := Lib.hid works_any
  generalize sinA a = sc at *
  obtain ⟨s, c⟩ := sc
  dsimp only at *
  clear w0
  go_enter Try.func4, Try.ntmps4
  go_wp2_with (first | (go_at_call 13; (with_reducible refine (S1.out _).mono ?_); rintro e w2 ⟨rfl, k1⟩; replace K := K.step k1; clear k1; (try clear ww); revert w2; intro ww K) | (go_at_call 13; (with_reducible refine (S2.out _).mono ?_); rintro e w2 ⟨rfl, k1⟩; replace K := K.step k1; clear k1; (try clear ww); revert w2; intro ww K) | (go_at_call 13; (with_reducible refine (S3.out _).mono ?_); rintro e w2 ⟨rfl, k1⟩; replace K := K.step k1; clear k1; (try clear ww); revert w2; intro ww K) | (go_at_call 15; (with_reducible refine (WK.out _).mono ?_); rintro e w2 ⟨rfl, k1⟩; replace K := K.step k1; clear k1; (try clear ww); revert w2; intro ww K))
  go_ret
  exact ⟨rfl, K.below⟩
end Go.Proofs.Ytnphpnkfdnnmbaa
