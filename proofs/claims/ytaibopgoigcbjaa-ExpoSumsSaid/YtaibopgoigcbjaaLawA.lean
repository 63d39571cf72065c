/-
  The laws ExpoRises and ExpoFalls of the chapter on logarithms: the plain mathematics, and their walks.
-/
import Derived.Test.YtaibopgoigcbjaaF06
import Derived.OpenShut
namespace Go.Proofs.Ytaibopgoigcbjaa
open Go.RowKit
set_option linter.unusedVariables false

/-! ### Of two numbers the greater one has no lesser logarithm -/
/-- What stands there of the lesser number is no more than what stands there of the greater one. -/
def LgLe (p q : Nat × Nat) : Prop := p.1 < q.1 ∨ (p.1 = q.1 ∧ p.2 ≤ q.2)
theorem lgStep_le {p q : Nat × Nat} (h : LgLe p q) : LgLe (lgStep p) (lgStep q) := by
  unfold LgLe at h ⊢
  rcases h with h | ⟨h1, h2⟩
  · left
    unfold lgStep
    split <;> split <;> (simp only []; omega)
  · have hs : p.2 * p.2 / 4611686018427387904 ≤ q.2 * q.2 / 4611686018427387904 := Nat.div_le_div_right (Nat.mul_le_mul h2 h2)
    unfold lgStep
    split <;> split <;> (simp only []; omega)
theorem lgRun_le {p q : Nat × Nat} (h : LgLe p q) : ∀ k, LgLe (lgRun k p) (lgRun k q)
  | 0 => h
  | k + 1 => lgStep_le (lgRun_le h k)
theorem log2_mono {x y : Nat} (h0 : x ≠ 0) (h : x ≤ y) : Nat.log2 x ≤ Nat.log2 y := (Nat.le_log2 (by omega)).2 (Nat.le_trans (Nat.log2_self_le h0) h)
theorem lg_mono {x y : Nat} (h0 : x ≠ 0) (h : x ≤ y) : lg x ≤ lg y := by
  have key : LgLe (Nat.log2 x, mant x) (Nat.log2 y, mant y) := by
    have := log2_mono h0 h
    rcases Nat.lt_or_ge (Nat.log2 x) (Nat.log2 y) with hl | hl
    · exact .inl hl
    · have e : Nat.log2 x = Nat.log2 y := by omega
      refine .inr ⟨e, ?_⟩
      unfold mant
      rw [e]
      exact Nat.div_le_div_right (Nat.mul_le_mul_right _ h)
  have := lgRun_le key 16
  unfold LgLe at this
  unfold lg
  omega
/-! ### Twice a number has one more -/
theorem lgStep_up (o m d : Nat) : lgStep (o + d, m) = ((lgStep (o, m)).1 + 2 * d, (lgStep (o, m)).2) := by
  unfold lgStep
  simp only []
  split <;> simp only [Prod.mk.injEq, and_true] <;> omega
theorem lgRun_up (o m d : Nat) : ∀ k, lgRun k (o + d, m) = ((lgRun k (o, m)).1 + d * 2 ^ k, (lgRun k (o, m)).2)
  | 0 => by simp [lgRun]
  | k + 1 => by
    show lgStep (lgRun k (o + d, m)) = ((lgStep (lgRun k (o, m))).1 + d * 2 ^ (k + 1), (lgStep (lgRun k (o, m))).2)
    have e : 2 * (d * 2 ^ k) = d * 2 ^ (k + 1) := by rw [Nat.pow_succ, ← Nat.mul_assoc d]; omega
    rw [lgRun_up o m d k, lgStep_up, e]
theorem log2_twice {x : Nat} (h0 : x ≠ 0) : Nat.log2 (2 * x) = Nat.log2 x + 1 := by
  refine (Nat.log2_eq_iff (by omega)).2 ⟨?_, ?_⟩
  · have := Nat.log2_self_le h0
    rw [Nat.pow_succ]; omega
  · have : x < 2 ^ (Nat.log2 x + 1) := Nat.lt_log2_self
    rw [Nat.pow_succ]; omega
theorem lg_twice {x : Nat} (h0 : x ≠ 0) (h : x < 4611686018427387904) : lg (2 * x) = lg x + 65536 := by
  have hl : Nat.log2 x < 62 := (Nat.log2_lt h0).2 (by omega)
  have hm : mant (2 * x) = mant x := by
    unfold mant
    rw [log2_twice h0, show 63 - Nat.log2 x = (63 - (Nat.log2 x + 1)) + 1 by omega, Nat.pow_succ]
    congr 1
    rw [Nat.mul_comm 2 x, Nat.mul_assoc, Nat.mul_comm 2]
  unfold lg
  rw [log2_twice h0, hm, lgRun_up]
theorem lg_whole {x : Nat} (h0 : x ≠ 0) (h : x < 2 ^ 64) : lg x / 65536 = Nat.log2 x ∧ x / 2 ^ Nat.log2 x = 1 := by
  have := lg_at x h0 h
  refine ⟨by omega, ?_⟩
  have h1 := Nat.log2_self_le h0
  have h2 : x < 2 ^ (Nat.log2 x + 1) := Nat.lt_log2_self
  rw [Nat.pow_succ] at h2
  exact (Nat.div_eq_iff (Nat.two_pow_pos _)).2 (by omega)

set_option maxHeartbeats 2000000 in
set_option maxRecDepth 100000 in
theorem walk_ExpoRises (a0 a1 : Int) (w0 : (Lit.int .u64 a0).wf = true) (w1 : (Lit.int .u64 a1).wf = true) (w : World) :
    Calls Try.prog 4 #[.int .u64 a0, .int .u64 a1] w fun e w' => e = .returned (.bool true) ∧ Below w.heap.size w w' := by
  have b0 := bounds_u64 w0
  have b1 := bounds_u64 w1
  clear w0 w1
  obtain ⟨x, rfl⟩ := Int.eq_ofNat_of_zero_le b0.1
  obtain ⟨y, rfl⟩ := Int.eq_ofNat_of_zero_le b1.1
  by_cases hx : x = 0
  · subst hx
    go_enter Try.func4, Try.ntmps4
    go_wp2_with fail
    refine (works_any _).mono ?_; rintro e w1 ⟨rfl, k⟩; dsimp only
    go_wp2
    go_ret
    exact ⟨rfl, k⟩
  by_cases hy : y = 0
  · subst hy
    have hx0 : ((x : Int) == 0) = false := by simpa using hx
    clear hx
    go_enter Try.func4, Try.ntmps4
    go_wp2_with fail
    refine (works_any _).mono ?_; rintro e w1 ⟨rfl, k⟩; dsimp only
    go_wp2
    go_ret
    exact ⟨rfl, k⟩
  have hx0 : ((x : Int) == 0) = false := by simpa using hx
  have hy0 : ((y : Int) == 0) = false := by simpa using hy
  have hw := lg_whole hx (by omega)
  have hl : Nat.log2 x < 64 := (Nat.log2_lt hx).2 (by omega)
  have hly : lg y < 4194304 := by
    have := lg_at y hy (by omega)
    have : Nat.log2 y < 64 := (Nat.log2_lt hy).2 (by omega)
    omega
  have H2 := Lib.hid (fun h : x < 4611686018427387904 => lg_twice hx h)
  have Hle := Lib.hid (fun h : x ≤ y => lg_mono hx h)
  have K := Lib.hid (And.intro hx (And.intro hy (And.intro (show x < 18446744073709551616 by omega) (show y < 18446744073709551616 by omega))))
  obtain ⟨A, hA⟩ : ∃ A, A = lg x := ⟨_, rfl⟩
  obtain ⟨B, hB⟩ : ∃ B, B = lg y := ⟨_, rfl⟩
  obtain ⟨n, hn⟩ : ∃ n, n = Nat.log2 x := ⟨_, rfl⟩
  rw [← hA, ← hn] at hw
  rw [← hn] at hl
  rw [← hB] at hly
  have EA : Hid (lg x = A) := Lib.hid hA.symm
  have EB : Hid (lg y = B) := Lib.hid hB.symm
  have bA : A < 4194304 := by omega
  have es : (A : Int) / 65536 = (n : Int) := by omega
  have eq1 : ((x : Int) / 2 ^ n == 1) = true := by
    rw [show ((x : Int) / 2 ^ n) = ((x / 2 ^ n : Nat) : Int) by simp, hw.2]; rfl
  have EC : Hid (x < 4611686018427387904 → ((lg (2 * x) : Nat) : Int) = (A : Int) + 65536) := Lib.hid (fun h => by rw [H2.out h, EA.out]; omega)
  have TA : decide ((A : Int) < 0) = false := decide_eq_false (by omega)
  have T0 : decide ((4194304 : Int) ≤ (A : Int)) = false := decide_eq_false (by omega)
  clear hx hy hn hA hB hw H2 b0 b1
  by_cases hxy : x ≤ y
  · have T1 : decide (x ≤ y) = true := decide_eq_true hxy
    have T2 : decide (B < A) = false := decide_eq_false (by have := Hle.out hxy; rw [EA.out, EB.out] at this; omega)
    clear hxy Hle
    by_cases h62 : x < 4611686018427387904
    · have T3 : decide ((x : Int) < 4611686018427387904) = true := decide_eq_true (by omega)
      have h62' := Lib.hid h62
      have e2x : IntKind.u64.wrap (2 * (x : Int)) = 2 * (x : Int) := IntWalk.u64_in _ (by omega)
      have C2 : Hid (Calls Try.prog 8 #[.int .u64 (2 * (x : Int))] w fun e w' => e = .returned (.tuple #[.int .i64 ((A : Int) + 65536), .int .i64 0]) ∧ w = w') := Lib.hid (by
        have h := Log_some (2 * x) w (by have := K.out.1; omega) (by omega)
        rw [EC.out h62, show (((2 * x : Nat)) : Int) = 2 * (x : Int) by omega] at h
        exact h)
      clear h62
      go_enter Try.func4, Try.ntmps4
      go_wp2_with fail
      refine (Log_some x _ K.out.1 K.out.2.2.1).mono ?_; rintro e w1 ⟨rfl, rfl⟩; dsimp only
      rw [EA.out]
      go_wp2_with fail
      refine (Log_some y _ K.out.2.1 K.out.2.2.2).mono ?_; rintro e w1 ⟨rfl, rfl⟩; dsimp only
      rw [EB.out]
      go_wp2_with fail
      refine C2.out.mono ?_; rintro e w1 ⟨rfl, rfl⟩; dsimp only
      go_wp2_with fail
      refine (works_any _).mono ?_; rintro e w1 ⟨rfl, k⟩; dsimp only
      go_wp2
      go_ret
      exact ⟨rfl, k⟩
    · have T3 : decide ((x : Int) < 4611686018427387904) = false := decide_eq_false (by omega)
      clear h62
      go_enter Try.func4, Try.ntmps4
      go_wp2_with fail
      refine (Log_some x _ K.out.1 K.out.2.2.1).mono ?_; rintro e w1 ⟨rfl, rfl⟩; dsimp only
      rw [EA.out]
      go_wp2_with fail
      refine (Log_some y _ K.out.2.1 K.out.2.2.2).mono ?_; rintro e w1 ⟨rfl, rfl⟩; dsimp only
      rw [EB.out]
      go_wp2_with fail
      refine (works_any _).mono ?_; rintro e w1 ⟨rfl, k⟩; dsimp only
      go_wp2
      go_ret
      exact ⟨rfl, k⟩
  · have T1 : decide (x ≤ y) = false := decide_eq_false hxy
    clear hxy Hle
    by_cases h62 : x < 4611686018427387904
    · have T3 : decide ((x : Int) < 4611686018427387904) = true := decide_eq_true (by omega)
      have h62' := Lib.hid h62
      have e2x : IntKind.u64.wrap (2 * (x : Int)) = 2 * (x : Int) := IntWalk.u64_in _ (by omega)
      have C2 : Hid (Calls Try.prog 8 #[.int .u64 (2 * (x : Int))] w fun e w' => e = .returned (.tuple #[.int .i64 ((A : Int) + 65536), .int .i64 0]) ∧ w = w') := Lib.hid (by
        have h := Log_some (2 * x) w (by have := K.out.1; omega) (by omega)
        rw [EC.out h62, show (((2 * x : Nat)) : Int) = 2 * (x : Int) by omega] at h
        exact h)
      clear h62
      go_enter Try.func4, Try.ntmps4
      go_wp2_with fail
      refine (Log_some x _ K.out.1 K.out.2.2.1).mono ?_; rintro e w1 ⟨rfl, rfl⟩; dsimp only
      rw [EA.out]
      go_wp2_with fail
      refine (Log_some y _ K.out.2.1 K.out.2.2.2).mono ?_; rintro e w1 ⟨rfl, rfl⟩; dsimp only
      rw [EB.out]
      go_wp2_with fail
      refine C2.out.mono ?_; rintro e w1 ⟨rfl, rfl⟩; dsimp only
      go_wp2_with fail
      refine (works_any _).mono ?_; rintro e w1 ⟨rfl, k⟩; dsimp only
      go_wp2
      go_ret
      exact ⟨rfl, k⟩
    · have T3 : decide ((x : Int) < 4611686018427387904) = false := decide_eq_false (by omega)
      clear h62
      go_enter Try.func4, Try.ntmps4
      go_wp2_with fail
      refine (Log_some x _ K.out.1 K.out.2.2.1).mono ?_; rintro e w1 ⟨rfl, rfl⟩; dsimp only
      rw [EA.out]
      go_wp2_with fail
      refine (Log_some y _ K.out.2.1 K.out.2.2.2).mono ?_; rintro e w1 ⟨rfl, rfl⟩; dsimp only
      rw [EB.out]
      go_wp2_with fail
      refine (works_any _).mono ?_; rintro e w1 ⟨rfl, k⟩; dsimp only
      go_wp2
      go_ret
      exact ⟨rfl, k⟩

/-! ### Of two exponents whose lower sixteen bits are the same the greater one has the lesser power, by halves -/
theorem exStep_low (x y k m : Nat) (h : x % 65536 = y % 65536) (hk : k < 16) : exStep x k m = exStep y k m := by
  have key : ∀ z : Nat, z / 2 ^ (15 - k) % 2 = z % 65536 / 2 ^ (15 - k) % 2 := by
    intro z
    have e : (65536 : Nat) = 2 ^ (15 - k) * 2 ^ (k + 1) := by rw [← Nat.pow_add, show 15 - k + (k + 1) = 16 by omega]
    rw [e, Nat.mod_mul_right_div_self, Nat.mod_mod_of_dvd _ (by rw [Nat.pow_succ]; exact Nat.dvd_mul_left 2 _)]
  unfold exStep
  rw [key x, key y, h]
theorem exRun_low (x y : Nat) (h : x % 65536 = y % 65536) : ∀ k, k ≤ 16 → exRun x k = exRun y k
  | 0, _ => rfl
  | k + 1, hk => by
    show exStep x k (exRun x k) = exStep y k (exRun y k)
    rw [exRun_low x y h k (by omega), exStep_low x y k _ h (by omega)]
theorem ex_falls (x n : Nat) : ex (x + n * 65536) = ex x / 2 ^ n := by
  have e : exRun (x + n * 65536) 16 = exRun x 16 := exRun_low _ _ (by omega) 16 (by omega)
  have ew : (x + n * 65536) / 65536 = x / 65536 + n := by omega
  have hb := exRun_bd x 16
  unfold ex
  rw [ew, e]
  by_cases h1 : 40 < x / 65536
  · rw [if_pos h1, if_pos (by omega), Nat.zero_div]
  · rw [if_neg h1, Nat.div_div_eq_div_mul (exRun x 16 / 1073741824), ← Nat.pow_add]
    by_cases h2 : 40 < x / 65536 + n
    · rw [if_pos h2]
      refine (Nat.div_eq_of_lt ?_).symm
      have : 2 ^ 41 ≤ 2 ^ (x / 65536 + n) := Nat.pow_le_pow_right (by omega) (by omega)
      omega
    · rw [if_neg h2]
theorem ex_zero : ex 0 = 4294967296 := by decide +kernel
theorem shr_min (a n : Nat) (h : a < 2 ^ 64) : a / 2 ^ min n 64 = a / 2 ^ n := by
  rcases Nat.le_total n 64 with h' | h'
  · rw [Nat.min_eq_left h']
  · rw [Nat.min_eq_right h', Nat.div_eq_of_lt h, Nat.div_eq_of_lt (Nat.lt_of_lt_of_le h (Nat.pow_le_pow_right (by omega) h'))]

set_option maxHeartbeats 2000000 in
set_option maxRecDepth 100000 in
theorem walk_ExpoFalls (a0 a1 : Int) (w0 : (Lit.int .i64 a0).wf = true) (w1 : (Lit.int .u8 a1).wf = true) (w : World) :
    Calls Try.prog 6 #[.int .i64 a0, .int .u8 a1] w fun e w' => e = .returned (.bool true) ∧ Below w.heap.size w w' := by
  have b0 := bounds_i64 w0
  have b1 := bounds_u8 w1
  clear w0 w1
  obtain ⟨n, rfl⟩ := Int.eq_ofNat_of_zero_le b1.1
  by_cases hneg : a0 < 0
  · have T : decide (a0 < 0) = true := decide_eq_true hneg
    clear hneg b0
    go_enter Try.func6, Try.ntmps6
    go_wp2_with fail
    refine (works_any _).mono ?_; rintro e w1 ⟨rfl, k⟩; dsimp only
    go_wp2
    go_ret
    exact ⟨rfl, k⟩
  have T : decide (a0 < 0) = false := decide_eq_false hneg
  by_cases hbig : 1099511627776 < a0
  · have T2 : decide ((1099511627776 : Int) < a0) = true := decide_eq_true hbig
    clear hneg b0 hbig
    go_enter Try.func6, Try.ntmps6
    go_wp2_with fail
    refine (works_any _).mono ?_; rintro e w1 ⟨rfl, k⟩; dsimp only
    go_wp2
    go_ret
    exact ⟨rfl, k⟩
  have T2 : decide ((1099511627776 : Int) < a0) = false := decide_eq_false hbig
  obtain ⟨x, rfl⟩ := Int.eq_ofNat_of_zero_le (by omega : 0 ≤ a0)
  have C1 : Hid (∀ w : World, Calls Try.prog 11 #[.int .i64 x] w fun e w' => e = .returned (.tuple #[.int .u64 (ex x), .int .i64 0]) ∧ Below w.heap.size w w') := Lib.hid (fun w => Exp_some x w (by omega))
  have C2 : Hid (∀ w : World, Calls Try.prog 11 #[.int .i64 ((x : Int) + (n : Int) * 65536)] w fun e w' => e = .returned (.tuple #[.int .u64 ((ex x / 2 ^ n : Nat) : Int), .int .i64 0]) ∧ Below w.heap.size w w') := Lib.hid (fun w => by
    have h := Exp_some (x + n * 65536) w (by omega)
    rw [ex_falls, show (((x + n * 65536 : Nat)) : Int) = (x : Int) + (n : Int) * 65536 by omega] at h
    exact h)
  have ha := ex_bd x
  have hz : x = 0 → ex x = 4294967296 := fun h => by rw [h]; exact ex_zero
  obtain ⟨a, hA⟩ : ∃ a, a = ex x := ⟨_, rfl⟩
  obtain ⟨b, hB⟩ : ∃ b, b = a / 2 ^ n := ⟨_, rfl⟩
  rw [← hA] at ha hz C1 C2
  rw [← hB] at C2
  have T3 : decide ((a : Int) ≤ 4294967296) = true := decide_eq_true (by omega)
  have T4 : ((b : Int) == (a : Int) / 2 ^ min n 64) = true := by
    rw [show ((a : Int) / 2 ^ min n 64) = ((a / 2 ^ min n 64 : Nat) : Int) by simp, shr_min a n (by omega), hB]; simp
  have bn : n ≤ 255 := by omega
  have bx : x ≤ 1099511627776 := by omega
  by_cases hx : x = 0
  · have T5 : ((x : Int) != 0) = false := by simp [hx]
    have T6 : ((a : Int) == 4294967296) = true := by rw [hz hx]; rfl
    clear hx hz hA hB ha b0 b1 hneg hbig
    go_enter Try.func6, Try.ntmps6
    go_wp2_with fail
    refine (C1.out _).mono ?_; rintro e w1 ⟨rfl, k1⟩; dsimp only
    go_wp2_with fail
    refine (C2.out _).mono ?_; rintro e w2 ⟨rfl, k2⟩; dsimp only
    replace k2 := below_step k1 k2 k1.size
    clear k1
    go_wp2_with fail
    refine (works_any _).mono ?_; rintro e w3 ⟨rfl, k⟩; dsimp only
    replace k := below_step k2 k k2.size
    go_wp2
    go_ret
    exact ⟨rfl, k⟩
  · have T5 : ((x : Int) != 0) = true := by simpa using hx
    clear hx hz hA hB ha b0 b1 hneg hbig
    go_enter Try.func6, Try.ntmps6
    go_wp2_with fail
    refine (C1.out _).mono ?_; rintro e w1 ⟨rfl, k1⟩; dsimp only
    go_wp2_with fail
    refine (C2.out _).mono ?_; rintro e w2 ⟨rfl, k2⟩; dsimp only
    replace k2 := below_step k1 k2 k1.size
    clear k1
    go_wp2_with fail
    refine (works_any _).mono ?_; rintro e w3 ⟨rfl, k⟩; dsimp only
    replace k := below_step k2 k k2.size
    go_wp2
    go_ret
    exact ⟨rfl, k⟩
end Go.Proofs.Ytaibopgoigcbjaa
