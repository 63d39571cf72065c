/-
  The walk of the law of rounding.
-/
import Derived.Test.YtpidcilpdoldjaaLa03
namespace Go.Proofs.Ytpidcilpdoldjaa
open Go.RowKit
set_option linter.unusedVariables false

/-! ### The plain law -/
theorem rq_between (z c : Int) : rq z c 0 ≤ rq z c 2 ∧ rq z c 2 ≤ rq z c 1 ∧ (rq z c 1 = rq z c 0 ∨ rq z c 1 - 1 = rq z c 0) := by
  unfold rq qMag upB
  generalize z.natAbs / c.natAbs = q
  generalize hr : z.natAbs % c.natAbs = r
  generalize c.natAbs = d
  generalize (decide (z < 0) != decide (c < 0)) = m
  by_cases h0 : r = 0
  · simp [h0]
  · by_cases h1 : d < 2 * r <;> by_cases h2 : 2 * r = d <;> cases m <;> simp [h0, h1, h2, wv] <;> omega
theorem rq_neg (z c : Int) (hc : c ≠ 0) : rq z (-c) 1 = -(rq z c 0) ∧ rq z (-c) 0 = -(rq z c 1) := by
  have hs : (decide (z < 0) != decide (-c < 0)) = !(decide (z < 0) != decide (c < 0)) := by
    by_cases h1 : z < 0 <;> by_cases h2 : c < 0 <;> simp [h1, h2] <;> omega
  unfold rq qMag upB
  rw [hs, Int.natAbs_neg]
  generalize z.natAbs / c.natAbs = q
  generalize hr : z.natAbs % c.natAbs = r
  generalize (decide (z < 0) != decide (c < 0)) = m
  by_cases h0 : r = 0
  · cases m <;> simp [h0, wv]
  · cases m <;> simp [h0, wv]
theorem badB_zero (c mode : Int) (h : c = 0) : badB c mode = true := by subst h; simp [badB]
theorem badB_not (c mode : Int) (h : c ≠ 0) (h0 : 0 ≤ mode) (h1 : mode ≤ 3) : badB c mode = false := by
  unfold badB
  rw [decide_eq_false h, decide_eq_false (by omega), decide_eq_false (by omega)]; rfl
/-- Both ends have room: so has what is between. -/
theorem divM_mid {z c : Int} (h0 : (divM z c 0).2 = 0) (h1 : (divM z c 1).2 = 0) : c ≠ 0 ∧ (divM z c 2).2 = 0 ∧ (divM z c 0).1 = rq z c 0 ∧ (divM z c 1).1 = rq z c 1 ∧ (divM z c 2).1 = rq z c 2 ∧ fits64 (rq z c 0) = true ∧ fits64 (rq z c 1) = true := by
  have hc : c ≠ 0 := by
    intro h
    rw [divM_bad (badB_zero c 0 h)] at h0
    cases h0
  have b0 := badB_not c 0 hc (by omega) (by omega)
  have b1 := badB_not c 1 hc (by omega) (by omega)
  have b2 := badB_not c 2 hc (by omega) (by omega)
  have f0 : fits64 (rq z c 0) = true := by
    cases h : fits64 (rq z c 0)
    · rw [divM_sat b0 h] at h0; cases h0
    · rfl
  have f1 : fits64 (rq z c 1) = true := by
    cases h : fits64 (rq z c 1)
    · rw [divM_sat b1 h] at h1; cases h1
    · rfl
  have hb := rq_between z c
  have f2 : fits64 (rq z c 2) = true := by
    rw [fits64_iff] at *; omega
  rw [divM_fit b0 f0, divM_fit b1 f1, divM_fit b2 f2]
  exact ⟨hc, rfl, rfl, rfl, rfl, f0, f1⟩
theorem divM_turned {z c : Int} (hc : c ≠ 0) (h0 : fits64 (-(rq z c 0)) = true) (h1 : fits64 (-(rq z c 1)) = true) : divM z (-c) 1 = (-(rq z c 0), 0) ∧ divM z (-c) 0 = (-(rq z c 1), 0) := by
  have hn := rq_neg z c hc
  have b0 := badB_not (-c) 0 (by omega) (by omega) (by omega)
  have b1 := badB_not (-c) 1 (by omega) (by omega) (by omega)
  rw [divM_fit b1 (by rw [hn.1]; exact h0), divM_fit b0 (by rw [hn.2]; exact h1), hn.1, hn.2]
  exact ⟨rfl, rfl⟩

/-! ### The walk -/
set_option maxHeartbeats 8000000 in
set_option maxRecDepth 100000 in
theorem core_WideRounds (a b c : Int) (w : World) (ha : in64 a = true) (hb : in64 b = true) (hc : in64 c = true) :
    Calls Try.prog 6 #[.int .i64 a, .int .i64 b, .int .i64 c] w fun e w' => e = .returned (.bool true) ∧ Below w.heap.size w w' := by
  have K := St.start w
  have WK := Lib.hid works_any
  have hzN := zeroN
  have MD : ∀ mode : Int, Hid (∀ w, Calls Try.prog 28 #[.int .i64 a, .int .i64 b, .int .i64 c, .int .i64 mode] w fun e w' => e = .returned (.tuple #[.int .i64 (divM (a * b) c mode).1, .int .i64 (divM (a * b) c mode).2]) ∧ Below w.heap.size w w') := fun mode => Lib.hid (fun w => MulDiv_any a b c mode w (in64_lo ha) (in64_hi ha) (in64_lo hb) (in64_hi hb) (in64_lo hc) (in64_hi hc))
  have M0 := MD 0
  have M1 := MD 1
  have M2 := MD 2
  have HC := Lib.hid (And.intro (in64_lo hc) (in64_hi hc))
  have u1 := TurnedW_at 0 1 (by decide)
  have u2 := TurnedW_at 1 0 (by decide)
  by_cases e0 : (divM (a * b) c 0).2 = 0
  case neg =>
    have t0 : ((divM (a * b) c 0).2 != 0) = true := by simpa using e0
    clear e0 MD ha hb hc
    generalize divM (a * b) c 0 = r0 at *
    generalize divM (a * b) c 1 = r1 at *
    generalize divM (a * b) c 2 = r2 at *
    obtain ⟨l, e⟩ := r0
    obtain ⟨h, f⟩ := r1
    obtain ⟨m, g⟩ := r2
    simp only at t0
    go_enter Try.func6, Try.ntmps6
    go_wp2_with (first | ((with_reducible refine wl_at_build 29 ?_); refine wl_build rfl 29 _ rfl rfl (builtN _) ?_) | go_big_skip | (go_at_call 28; (with_reducible refine (M0.out _).mono ?_); rintro e w2 ⟨rfl, k1⟩; replace K := K.step k1; clear k1; (try clear ww); revert w2; intro ww K) | (go_at_call 28; (with_reducible refine (M1.out _).mono ?_); rintro e w2 ⟨rfl, k1⟩; replace K := K.step k1; clear k1; (try clear ww); revert w2; intro ww K) | (go_at_call 28; (with_reducible refine (M2.out _).mono ?_); rintro e w2 ⟨rfl, k1⟩; replace K := K.step k1; clear k1; (try clear ww); revert w2; intro ww K) | (go_at_call 28; (with_reducible refine (N0.out _).mono ?_); rintro e w2 ⟨rfl, k1⟩; replace K := K.step k1; clear k1; (try clear ww); revert w2; intro ww K) | (go_at_call 28; (with_reducible refine (N1.out _).mono ?_); rintro e w2 ⟨rfl, k1⟩; replace K := K.step k1; clear k1; (try clear ww); revert w2; intro ww K) | (go_at_call 29; (with_reducible refine (u1.out _).mono ?_); rintro e w2 ⟨rfl, rfl⟩; (try dsimp only)) | (go_at_call 29; (with_reducible refine (u2.out _).mono ?_); rintro e w2 ⟨rfl, rfl⟩; (try dsimp only)) | (go_at_call 17; (with_reducible refine (O1.out _).mono ?_); rintro e w2 ⟨rfl, k1⟩; replace K := K.step k1; clear k1; (try clear ww); revert w2; intro ww K) | (go_at_call 23; (with_reducible refine (C1.out _).mono ?_); rintro e w2 ⟨rfl, k1⟩; replace K := K.step k1; clear k1; (try clear ww); revert w2; intro ww K) | (go_at_call 18; (with_reducible refine (WK.out _).mono ?_); rintro e w2 ⟨rfl, k1⟩; replace K := K.step k1; clear k1; (try clear ww); revert w2; intro ww K))
    go_ret
    exact ⟨rfl, K.below⟩
  by_cases e1 : (divM (a * b) c 1).2 = 0
  case neg =>
    have t1 : ((divM (a * b) c 1).2 != 0) = true := by simpa using e1
    clear e1 MD ha hb hc
    rw [e0] at M0
    clear e0
    generalize (divM (a * b) c 0).1 = l at *
    generalize divM (a * b) c 1 = r1 at *
    generalize divM (a * b) c 2 = r2 at *
    obtain ⟨h, f⟩ := r1
    obtain ⟨m, g⟩ := r2
    simp only at t1
    go_enter Try.func6, Try.ntmps6
    go_wp2_with (first | ((with_reducible refine wl_at_build 29 ?_); refine wl_build rfl 29 _ rfl rfl (builtN _) ?_) | go_big_skip | (go_at_call 28; (with_reducible refine (M0.out _).mono ?_); rintro e w2 ⟨rfl, k1⟩; replace K := K.step k1; clear k1; (try clear ww); revert w2; intro ww K) | (go_at_call 28; (with_reducible refine (M1.out _).mono ?_); rintro e w2 ⟨rfl, k1⟩; replace K := K.step k1; clear k1; (try clear ww); revert w2; intro ww K) | (go_at_call 28; (with_reducible refine (M2.out _).mono ?_); rintro e w2 ⟨rfl, k1⟩; replace K := K.step k1; clear k1; (try clear ww); revert w2; intro ww K) | (go_at_call 28; (with_reducible refine (N0.out _).mono ?_); rintro e w2 ⟨rfl, k1⟩; replace K := K.step k1; clear k1; (try clear ww); revert w2; intro ww K) | (go_at_call 28; (with_reducible refine (N1.out _).mono ?_); rintro e w2 ⟨rfl, k1⟩; replace K := K.step k1; clear k1; (try clear ww); revert w2; intro ww K) | (go_at_call 29; (with_reducible refine (u1.out _).mono ?_); rintro e w2 ⟨rfl, rfl⟩; (try dsimp only)) | (go_at_call 29; (with_reducible refine (u2.out _).mono ?_); rintro e w2 ⟨rfl, rfl⟩; (try dsimp only)) | (go_at_call 17; (with_reducible refine (O1.out _).mono ?_); rintro e w2 ⟨rfl, k1⟩; replace K := K.step k1; clear k1; (try clear ww); revert w2; intro ww K) | (go_at_call 23; (with_reducible refine (C1.out _).mono ?_); rintro e w2 ⟨rfl, k1⟩; replace K := K.step k1; clear k1; (try clear ww); revert w2; intro ww K) | (go_at_call 18; (with_reducible refine (WK.out _).mono ?_); rintro e w2 ⟨rfl, k1⟩; replace K := K.step k1; clear k1; (try clear ww); revert w2; intro ww K))
    go_ret
    exact ⟨rfl, K.below⟩
  obtain ⟨hc0, e2, l0, l1, l2, f0, f1⟩ := divM_mid e0 e1
  have hbt := rq_between (a * b) c
  rw [e0, l0] at M0
  rw [e1, l1] at M1
  rw [e2, l2] at M2
  have fz0 := (fits64_iff _).1 f0
  have fz1 := (fits64_iff _).1 f1
  have NN : Hid (c ≠ -9223372036854775808 → rq (a * b) c 1 ≠ -9223372036854775808 → rq (a * b) c 0 ≠ -9223372036854775808 → ∀ w,
      (Calls Try.prog 28 #[.int .i64 a, .int .i64 b, .int .i64 (-c), .int .i64 1] w fun e w' => e = .returned (.tuple #[.int .i64 (-(rq (a * b) c 0)), .int .i64 0]) ∧ Below w.heap.size w w') ∧
      (Calls Try.prog 28 #[.int .i64 a, .int .i64 b, .int .i64 (-c), .int .i64 0] w fun e w' => e = .returned (.tuple #[.int .i64 (-(rq (a * b) c 1)), .int .i64 0]) ∧ Below w.heap.size w w')) := Lib.hid (fun c1 c2 c3 w => by
    have ht := divM_turned (z := a * b) hc0 ((fits64_iff _).2 (by omega)) ((fits64_iff _).2 (by omega))
    have k1 := MulDiv_any a b (-c) 1 w (in64_lo ha) (in64_hi ha) (in64_lo hb) (in64_hi hb) (by have := in64_hi hc; omega) (by have := in64_lo hc; omega)
    have k0 := MulDiv_any a b (-c) 0 w (in64_lo ha) (in64_hi ha) (in64_lo hb) (in64_hi hb) (by have := in64_hi hc; omega) (by have := in64_lo hc; omega)
    rw [ht.1] at k1
    rw [ht.2] at k0
    exact ⟨k1, k0⟩)
  clear e0 e1 e2 l0 l1 l2 f0 f1 MD ha hb hc hc0
  generalize rq (a * b) c 0 = lo at *
  generalize rq (a * b) c 1 = hi at *
  generalize rq (a * b) c 2 = m at *
  have HL : Hid (-9223372036854775808 ≤ lo ∧ lo ≤ 9223372036854775807 ∧ -9223372036854775808 ≤ hi ∧ hi ≤ 9223372036854775807) := Lib.hid ⟨fz0.1, fz0.2, fz1.1, fz1.2⟩
  have O1 := Lib.hid (fun w => Of_any lo w fz0.1 fz0.2)
  have C1 := Lib.hid (fun w => Cmp_any lo 0 w (by omega) (by decide))
  rw [zeroNum] at C1
  obtain ⟨sg, hsg⟩ : ∃ sg, decide (lo < 0) = sg := ⟨_, rfl⟩
  have hsg2 : decide (cmpI lo 0 < 0) = sg := by
    rw [← hsg, decide_eq_decide]
    unfold cmpI
    split
    · omega
    · split <;> omega
  generalize cmpI lo 0 = r at *
  have t1 : decide (m < lo) = false := decide_eq_false (by omega)
  have t2 : decide (hi < m) = false := decide_eq_false (by omega)
  by_cases he : hi = lo
  · have t3 : (hi != lo) = false := by simp [he]
    clear fz0 fz1 hbt he
    by_cases c1 : c = -9223372036854775808
    · have tc : (c == -9223372036854775808) = true := by simpa using c1
      clear c1 NN
      go_enter Try.func6, Try.ntmps6
      go_wp2_with (first | ((with_reducible refine wl_at_build 29 ?_); refine wl_build rfl 29 _ rfl rfl (builtN _) ?_) | go_big_skip | (go_at_call 28; (with_reducible refine (M0.out _).mono ?_); rintro e w2 ⟨rfl, k1⟩; replace K := K.step k1; clear k1; (try clear ww); revert w2; intro ww K) | (go_at_call 28; (with_reducible refine (M1.out _).mono ?_); rintro e w2 ⟨rfl, k1⟩; replace K := K.step k1; clear k1; (try clear ww); revert w2; intro ww K) | (go_at_call 28; (with_reducible refine (M2.out _).mono ?_); rintro e w2 ⟨rfl, k1⟩; replace K := K.step k1; clear k1; (try clear ww); revert w2; intro ww K) | (go_at_call 28; (with_reducible refine (N0.out _).mono ?_); rintro e w2 ⟨rfl, k1⟩; replace K := K.step k1; clear k1; (try clear ww); revert w2; intro ww K) | (go_at_call 28; (with_reducible refine (N1.out _).mono ?_); rintro e w2 ⟨rfl, k1⟩; replace K := K.step k1; clear k1; (try clear ww); revert w2; intro ww K) | (go_at_call 29; (with_reducible refine (u1.out _).mono ?_); rintro e w2 ⟨rfl, rfl⟩; (try dsimp only)) | (go_at_call 29; (with_reducible refine (u2.out _).mono ?_); rintro e w2 ⟨rfl, rfl⟩; (try dsimp only)) | (go_at_call 17; (with_reducible refine (O1.out _).mono ?_); rintro e w2 ⟨rfl, k1⟩; replace K := K.step k1; clear k1; (try clear ww); revert w2; intro ww K) | (go_at_call 23; (with_reducible refine (C1.out _).mono ?_); rintro e w2 ⟨rfl, k1⟩; replace K := K.step k1; clear k1; (try clear ww); revert w2; intro ww K) | (go_at_call 18; (with_reducible refine (WK.out _).mono ?_); rintro e w2 ⟨rfl, k1⟩; replace K := K.step k1; clear k1; (try clear ww); revert w2; intro ww K))
      go_ret
      exact ⟨rfl, K.below⟩
    · have tc : (c == -9223372036854775808) = false := by simpa using c1
      by_cases c2 : hi = -9223372036854775808
      · have tc2 : (hi == -9223372036854775808) = true := by simpa using c2
        clear c1 c2 NN
        go_enter Try.func6, Try.ntmps6
        go_wp2_with (first | ((with_reducible refine wl_at_build 29 ?_); refine wl_build rfl 29 _ rfl rfl (builtN _) ?_) | go_big_skip | (go_at_call 28; (with_reducible refine (M0.out _).mono ?_); rintro e w2 ⟨rfl, k1⟩; replace K := K.step k1; clear k1; (try clear ww); revert w2; intro ww K) | (go_at_call 28; (with_reducible refine (M1.out _).mono ?_); rintro e w2 ⟨rfl, k1⟩; replace K := K.step k1; clear k1; (try clear ww); revert w2; intro ww K) | (go_at_call 28; (with_reducible refine (M2.out _).mono ?_); rintro e w2 ⟨rfl, k1⟩; replace K := K.step k1; clear k1; (try clear ww); revert w2; intro ww K) | (go_at_call 28; (with_reducible refine (N0.out _).mono ?_); rintro e w2 ⟨rfl, k1⟩; replace K := K.step k1; clear k1; (try clear ww); revert w2; intro ww K) | (go_at_call 28; (with_reducible refine (N1.out _).mono ?_); rintro e w2 ⟨rfl, k1⟩; replace K := K.step k1; clear k1; (try clear ww); revert w2; intro ww K) | (go_at_call 29; (with_reducible refine (u1.out _).mono ?_); rintro e w2 ⟨rfl, rfl⟩; (try dsimp only)) | (go_at_call 29; (with_reducible refine (u2.out _).mono ?_); rintro e w2 ⟨rfl, rfl⟩; (try dsimp only)) | (go_at_call 17; (with_reducible refine (O1.out _).mono ?_); rintro e w2 ⟨rfl, k1⟩; replace K := K.step k1; clear k1; (try clear ww); revert w2; intro ww K) | (go_at_call 23; (with_reducible refine (C1.out _).mono ?_); rintro e w2 ⟨rfl, k1⟩; replace K := K.step k1; clear k1; (try clear ww); revert w2; intro ww K) | (go_at_call 18; (with_reducible refine (WK.out _).mono ?_); rintro e w2 ⟨rfl, k1⟩; replace K := K.step k1; clear k1; (try clear ww); revert w2; intro ww K))
        go_ret
        exact ⟨rfl, K.below⟩
      · have tc2 : (hi == -9223372036854775808) = false := by simpa using c2
        by_cases c3 : lo = -9223372036854775808
        · have tc3 : (lo == -9223372036854775808) = true := by simpa using c3
          clear c1 c2 c3 NN
          go_enter Try.func6, Try.ntmps6
          go_wp2_with (first | ((with_reducible refine wl_at_build 29 ?_); refine wl_build rfl 29 _ rfl rfl (builtN _) ?_) | go_big_skip | (go_at_call 28; (with_reducible refine (M0.out _).mono ?_); rintro e w2 ⟨rfl, k1⟩; replace K := K.step k1; clear k1; (try clear ww); revert w2; intro ww K) | (go_at_call 28; (with_reducible refine (M1.out _).mono ?_); rintro e w2 ⟨rfl, k1⟩; replace K := K.step k1; clear k1; (try clear ww); revert w2; intro ww K) | (go_at_call 28; (with_reducible refine (M2.out _).mono ?_); rintro e w2 ⟨rfl, k1⟩; replace K := K.step k1; clear k1; (try clear ww); revert w2; intro ww K) | (go_at_call 28; (with_reducible refine (N0.out _).mono ?_); rintro e w2 ⟨rfl, k1⟩; replace K := K.step k1; clear k1; (try clear ww); revert w2; intro ww K) | (go_at_call 28; (with_reducible refine (N1.out _).mono ?_); rintro e w2 ⟨rfl, k1⟩; replace K := K.step k1; clear k1; (try clear ww); revert w2; intro ww K) | (go_at_call 29; (with_reducible refine (u1.out _).mono ?_); rintro e w2 ⟨rfl, rfl⟩; (try dsimp only)) | (go_at_call 29; (with_reducible refine (u2.out _).mono ?_); rintro e w2 ⟨rfl, rfl⟩; (try dsimp only)) | (go_at_call 17; (with_reducible refine (O1.out _).mono ?_); rintro e w2 ⟨rfl, k1⟩; replace K := K.step k1; clear k1; (try clear ww); revert w2; intro ww K) | (go_at_call 23; (with_reducible refine (C1.out _).mono ?_); rintro e w2 ⟨rfl, k1⟩; replace K := K.step k1; clear k1; (try clear ww); revert w2; intro ww K) | (go_at_call 18; (with_reducible refine (WK.out _).mono ?_); rintro e w2 ⟨rfl, k1⟩; replace K := K.step k1; clear k1; (try clear ww); revert w2; intro ww K))
          go_ret
          exact ⟨rfl, K.below⟩
        · have tc3 : (lo == -9223372036854775808) = false := by simpa using c3
          have N0 := Lib.hid (fun w => (NN.out c1 c2 c3 w).1)
          have N1 := Lib.hid (fun w => (NN.out c1 c2 c3 w).2)
          have ec : IntKind.i64.wrap (-c) = -c := IntWalk.i64_in _ (by have := HC.out; omega)
          have el : IntKind.i64.wrap (-lo) = -lo := IntWalk.i64_in _ (by have := HL.out; omega)
          have eh : IntKind.i64.wrap (-hi) = -hi := IntWalk.i64_in _ (by have := HL.out; omega)
          clear c1 c2 c3 NN
          go_enter Try.func6, Try.ntmps6
          go_wp2_with (first | ((with_reducible refine wl_at_build 29 ?_); refine wl_build rfl 29 _ rfl rfl (builtN _) ?_) | go_big_skip | (go_at_call 28; (with_reducible refine (M0.out _).mono ?_); rintro e w2 ⟨rfl, k1⟩; replace K := K.step k1; clear k1; (try clear ww); revert w2; intro ww K) | (go_at_call 28; (with_reducible refine (M1.out _).mono ?_); rintro e w2 ⟨rfl, k1⟩; replace K := K.step k1; clear k1; (try clear ww); revert w2; intro ww K) | (go_at_call 28; (with_reducible refine (M2.out _).mono ?_); rintro e w2 ⟨rfl, k1⟩; replace K := K.step k1; clear k1; (try clear ww); revert w2; intro ww K) | (go_at_call 28; (with_reducible refine (N0.out _).mono ?_); rintro e w2 ⟨rfl, k1⟩; replace K := K.step k1; clear k1; (try clear ww); revert w2; intro ww K) | (go_at_call 28; (with_reducible refine (N1.out _).mono ?_); rintro e w2 ⟨rfl, k1⟩; replace K := K.step k1; clear k1; (try clear ww); revert w2; intro ww K) | (go_at_call 29; (with_reducible refine (u1.out _).mono ?_); rintro e w2 ⟨rfl, rfl⟩; (try dsimp only)) | (go_at_call 29; (with_reducible refine (u2.out _).mono ?_); rintro e w2 ⟨rfl, rfl⟩; (try dsimp only)) | (go_at_call 17; (with_reducible refine (O1.out _).mono ?_); rintro e w2 ⟨rfl, k1⟩; replace K := K.step k1; clear k1; (try clear ww); revert w2; intro ww K) | (go_at_call 23; (with_reducible refine (C1.out _).mono ?_); rintro e w2 ⟨rfl, k1⟩; replace K := K.step k1; clear k1; (try clear ww); revert w2; intro ww K) | (go_at_call 18; (with_reducible refine (WK.out _).mono ?_); rintro e w2 ⟨rfl, k1⟩; replace K := K.step k1; clear k1; (try clear ww); revert w2; intro ww K))
          go_ret
          exact ⟨rfl, K.below⟩
  · have t3 : (hi != lo) = true := by simpa using he
    have e4 : IntKind.i64.wrap (hi - 1) = hi - 1 := IntWalk.i64_in _ (by omega)
    have t4 : (hi - 1 != lo) = false := by
      have : hi - 1 = lo := by omega
      simpa using this
    clear fz0 fz1 hbt he
    by_cases c1 : c = -9223372036854775808
    · have tc : (c == -9223372036854775808) = true := by simpa using c1
      clear c1 NN
      go_enter Try.func6, Try.ntmps6
      go_wp2_with (first | ((with_reducible refine wl_at_build 29 ?_); refine wl_build rfl 29 _ rfl rfl (builtN _) ?_) | go_big_skip | (go_at_call 28; (with_reducible refine (M0.out _).mono ?_); rintro e w2 ⟨rfl, k1⟩; replace K := K.step k1; clear k1; (try clear ww); revert w2; intro ww K) | (go_at_call 28; (with_reducible refine (M1.out _).mono ?_); rintro e w2 ⟨rfl, k1⟩; replace K := K.step k1; clear k1; (try clear ww); revert w2; intro ww K) | (go_at_call 28; (with_reducible refine (M2.out _).mono ?_); rintro e w2 ⟨rfl, k1⟩; replace K := K.step k1; clear k1; (try clear ww); revert w2; intro ww K) | (go_at_call 28; (with_reducible refine (N0.out _).mono ?_); rintro e w2 ⟨rfl, k1⟩; replace K := K.step k1; clear k1; (try clear ww); revert w2; intro ww K) | (go_at_call 28; (with_reducible refine (N1.out _).mono ?_); rintro e w2 ⟨rfl, k1⟩; replace K := K.step k1; clear k1; (try clear ww); revert w2; intro ww K) | (go_at_call 29; (with_reducible refine (u1.out _).mono ?_); rintro e w2 ⟨rfl, rfl⟩; (try dsimp only)) | (go_at_call 29; (with_reducible refine (u2.out _).mono ?_); rintro e w2 ⟨rfl, rfl⟩; (try dsimp only)) | (go_at_call 17; (with_reducible refine (O1.out _).mono ?_); rintro e w2 ⟨rfl, k1⟩; replace K := K.step k1; clear k1; (try clear ww); revert w2; intro ww K) | (go_at_call 23; (with_reducible refine (C1.out _).mono ?_); rintro e w2 ⟨rfl, k1⟩; replace K := K.step k1; clear k1; (try clear ww); revert w2; intro ww K) | (go_at_call 18; (with_reducible refine (WK.out _).mono ?_); rintro e w2 ⟨rfl, k1⟩; replace K := K.step k1; clear k1; (try clear ww); revert w2; intro ww K))
      go_ret
      exact ⟨rfl, K.below⟩
    · have tc : (c == -9223372036854775808) = false := by simpa using c1
      by_cases c2 : hi = -9223372036854775808
      · have tc2 : (hi == -9223372036854775808) = true := by simpa using c2
        clear c1 c2 NN
        go_enter Try.func6, Try.ntmps6
        go_wp2_with (first | ((with_reducible refine wl_at_build 29 ?_); refine wl_build rfl 29 _ rfl rfl (builtN _) ?_) | go_big_skip | (go_at_call 28; (with_reducible refine (M0.out _).mono ?_); rintro e w2 ⟨rfl, k1⟩; replace K := K.step k1; clear k1; (try clear ww); revert w2; intro ww K) | (go_at_call 28; (with_reducible refine (M1.out _).mono ?_); rintro e w2 ⟨rfl, k1⟩; replace K := K.step k1; clear k1; (try clear ww); revert w2; intro ww K) | (go_at_call 28; (with_reducible refine (M2.out _).mono ?_); rintro e w2 ⟨rfl, k1⟩; replace K := K.step k1; clear k1; (try clear ww); revert w2; intro ww K) | (go_at_call 28; (with_reducible refine (N0.out _).mono ?_); rintro e w2 ⟨rfl, k1⟩; replace K := K.step k1; clear k1; (try clear ww); revert w2; intro ww K) | (go_at_call 28; (with_reducible refine (N1.out _).mono ?_); rintro e w2 ⟨rfl, k1⟩; replace K := K.step k1; clear k1; (try clear ww); revert w2; intro ww K) | (go_at_call 29; (with_reducible refine (u1.out _).mono ?_); rintro e w2 ⟨rfl, rfl⟩; (try dsimp only)) | (go_at_call 29; (with_reducible refine (u2.out _).mono ?_); rintro e w2 ⟨rfl, rfl⟩; (try dsimp only)) | (go_at_call 17; (with_reducible refine (O1.out _).mono ?_); rintro e w2 ⟨rfl, k1⟩; replace K := K.step k1; clear k1; (try clear ww); revert w2; intro ww K) | (go_at_call 23; (with_reducible refine (C1.out _).mono ?_); rintro e w2 ⟨rfl, k1⟩; replace K := K.step k1; clear k1; (try clear ww); revert w2; intro ww K) | (go_at_call 18; (with_reducible refine (WK.out _).mono ?_); rintro e w2 ⟨rfl, k1⟩; replace K := K.step k1; clear k1; (try clear ww); revert w2; intro ww K))
        go_ret
        exact ⟨rfl, K.below⟩
      · have tc2 : (hi == -9223372036854775808) = false := by simpa using c2
        by_cases c3 : lo = -9223372036854775808
        · have tc3 : (lo == -9223372036854775808) = true := by simpa using c3
          clear c1 c2 c3 NN
          go_enter Try.func6, Try.ntmps6
          go_wp2_with (first | ((with_reducible refine wl_at_build 29 ?_); refine wl_build rfl 29 _ rfl rfl (builtN _) ?_) | go_big_skip | (go_at_call 28; (with_reducible refine (M0.out _).mono ?_); rintro e w2 ⟨rfl, k1⟩; replace K := K.step k1; clear k1; (try clear ww); revert w2; intro ww K) | (go_at_call 28; (with_reducible refine (M1.out _).mono ?_); rintro e w2 ⟨rfl, k1⟩; replace K := K.step k1; clear k1; (try clear ww); revert w2; intro ww K) | (go_at_call 28; (with_reducible refine (M2.out _).mono ?_); rintro e w2 ⟨rfl, k1⟩; replace K := K.step k1; clear k1; (try clear ww); revert w2; intro ww K) | (go_at_call 28; (with_reducible refine (N0.out _).mono ?_); rintro e w2 ⟨rfl, k1⟩; replace K := K.step k1; clear k1; (try clear ww); revert w2; intro ww K) | (go_at_call 28; (with_reducible refine (N1.out _).mono ?_); rintro e w2 ⟨rfl, k1⟩; replace K := K.step k1; clear k1; (try clear ww); revert w2; intro ww K) | (go_at_call 29; (with_reducible refine (u1.out _).mono ?_); rintro e w2 ⟨rfl, rfl⟩; (try dsimp only)) | (go_at_call 29; (with_reducible refine (u2.out _).mono ?_); rintro e w2 ⟨rfl, rfl⟩; (try dsimp only)) | (go_at_call 17; (with_reducible refine (O1.out _).mono ?_); rintro e w2 ⟨rfl, k1⟩; replace K := K.step k1; clear k1; (try clear ww); revert w2; intro ww K) | (go_at_call 23; (with_reducible refine (C1.out _).mono ?_); rintro e w2 ⟨rfl, k1⟩; replace K := K.step k1; clear k1; (try clear ww); revert w2; intro ww K) | (go_at_call 18; (with_reducible refine (WK.out _).mono ?_); rintro e w2 ⟨rfl, k1⟩; replace K := K.step k1; clear k1; (try clear ww); revert w2; intro ww K))
          go_ret
          exact ⟨rfl, K.below⟩
        · have tc3 : (lo == -9223372036854775808) = false := by simpa using c3
          have N0 := Lib.hid (fun w => (NN.out c1 c2 c3 w).1)
          have N1 := Lib.hid (fun w => (NN.out c1 c2 c3 w).2)
          have ec : IntKind.i64.wrap (-c) = -c := IntWalk.i64_in _ (by have := HC.out; omega)
          have el : IntKind.i64.wrap (-lo) = -lo := IntWalk.i64_in _ (by have := HL.out; omega)
          have eh : IntKind.i64.wrap (-hi) = -hi := IntWalk.i64_in _ (by have := HL.out; omega)
          clear c1 c2 c3 NN
          go_enter Try.func6, Try.ntmps6
          go_wp2_with (first | ((with_reducible refine wl_at_build 29 ?_); refine wl_build rfl 29 _ rfl rfl (builtN _) ?_) | go_big_skip | (go_at_call 28; (with_reducible refine (M0.out _).mono ?_); rintro e w2 ⟨rfl, k1⟩; replace K := K.step k1; clear k1; (try clear ww); revert w2; intro ww K) | (go_at_call 28; (with_reducible refine (M1.out _).mono ?_); rintro e w2 ⟨rfl, k1⟩; replace K := K.step k1; clear k1; (try clear ww); revert w2; intro ww K) | (go_at_call 28; (with_reducible refine (M2.out _).mono ?_); rintro e w2 ⟨rfl, k1⟩; replace K := K.step k1; clear k1; (try clear ww); revert w2; intro ww K) | (go_at_call 28; (with_reducible refine (N0.out _).mono ?_); rintro e w2 ⟨rfl, k1⟩; replace K := K.step k1; clear k1; (try clear ww); revert w2; intro ww K) | (go_at_call 28; (with_reducible refine (N1.out _).mono ?_); rintro e w2 ⟨rfl, k1⟩; replace K := K.step k1; clear k1; (try clear ww); revert w2; intro ww K) | (go_at_call 29; (with_reducible refine (u1.out _).mono ?_); rintro e w2 ⟨rfl, rfl⟩; (try dsimp only)) | (go_at_call 29; (with_reducible refine (u2.out _).mono ?_); rintro e w2 ⟨rfl, rfl⟩; (try dsimp only)) | (go_at_call 17; (with_reducible refine (O1.out _).mono ?_); rintro e w2 ⟨rfl, k1⟩; replace K := K.step k1; clear k1; (try clear ww); revert w2; intro ww K) | (go_at_call 23; (with_reducible refine (C1.out _).mono ?_); rintro e w2 ⟨rfl, k1⟩; replace K := K.step k1; clear k1; (try clear ww); revert w2; intro ww K) | (go_at_call 18; (with_reducible refine (WK.out _).mono ?_); rintro e w2 ⟨rfl, k1⟩; replace K := K.step k1; clear k1; (try clear ww); revert w2; intro ww K))
          go_ret
          exact ⟨rfl, K.below⟩
theorem walk_WideRounds (a b c : Int) (w0 : (Lit.int .i64 a).wf = true) (w1 : (Lit.int .i64 b).wf = true) (w2 : (Lit.int .i64 c).wf = true) (w : World) :
    Calls Try.prog 6 #[.int .i64 a, .int .i64 b, .int .i64 c] w fun e w' => e = .returned (.bool true) ∧ Below w.heap.size w w' :=
  core_WideRounds a b c w (in64_of w0) (in64_of w1) (in64_of w2)
end Go.Proofs.Ytpidcilpdoldjaa
