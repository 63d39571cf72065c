/-
  The laws ExpoRises and ExpoFalls of the chapter on logarithms: the plain mathematics, and their walks.
-/
import Derived.Test.YtnphpnkfdnnmbaaF06
import Derived.OpenShut
namespace Go.Proofs.Ytnphpnkfdnnmbaa
open Go.RowKit
set_option linter.unusedVariables false

/-! ### Of two numbers the greater one has no lesser logarithm -/
/-- What stands there of the lesser number is no more than what stands there of the greater one. -/
def LgLe (p q : Nat × Nat) : Prop := p.1 < q.1 ∨ (p.1 = q.1 ∧ p.2 ≤ q.2)
theorem lgStep_le {p q : Nat × Nat} (h : LgLe p q) : LgLe (lgStep p) (lgStep q) := by
  unfold LgLe at h ⊢
  rcases h with h | ⟨h1, h2⟩
  · left
    unfold lgStep
    split <;> split <;> (simp only []; omega)
  · have hs : p.2 * p.2 / 4611686018427387904 ≤ q.2 * q.2 / 4611686018427387904 := Nat.div_le_div_right (Nat.mul_le_mul h2 h2)
    unfold lgStep
    split <;> split <;> (simp only []; omega)
theorem lgRun_le {p q : Nat × Nat} (h : LgLe p q) : ∀ k, LgLe (lgRun k p) (lgRun k q)
  | 0 => h
  | k + 1 => lgStep_le (lgRun_le h k)
theorem log2_mono {x y : Nat} (h0 : x ≠ 0) (h : x ≤ y) : Nat.log2 x ≤ Nat.log2 y := (Nat.le_log2 (by omega)).2 (Nat.le_trans (Nat.log2_self_le h0) h)
theorem lg_mono {x y : Nat} (h0 : x ≠ 0) (h : x ≤ y) : lg x ≤ lg y := by
  have key : LgLe (Nat.log2 x, mant x) (Nat.log2 y, mant y) := by
    have := log2_mono h0 h
    rcases Nat.lt_or_ge (Nat.log2 x) (Nat.log2 y) with hl | hl
    · exact .inl hl
    · have e : Nat.log2 x = Nat.log2 y := by omega
      refine .inr ⟨e, ?_⟩
      unfold mant
      rw [e]
      exact Nat.div_le_div_right (Nat.mul_le_mul_right _ h)
  have := lgRun_le key 16
  unfold LgLe at this
  unfold lg
  omega
/-! ### Twice a number has one more -/
theorem lgStep_up (o m d : Nat) : lgStep (o + d, m) = ((lgStep (o, m)).1 + 2 * d, (lgStep (o, m)).2) := by
  unfold lgStep
  simp only []
  split <;> simp only [Prod.mk.injEq, and_true] <;> omega
theorem lgRun_up (o m d : Nat) : ∀ k, lgRun k (o + d, m) = ((lgRun k (o, m)).1 + d * 2 ^ k, (lgRun k (o, m)).2)
  | 0 => by simp [lgRun]
  | k + 1 => by
    show lgStep (lgRun k (o + d, m)) = ((lgStep (lgRun k (o, m))).1 + d * 2 ^ (k + 1), (lgStep (lgRun k (o, m))).2)
    have e : 2 * (d * 2 ^ k) = d * 2 ^ (k + 1) := by rw [Nat.pow_succ, ← Nat.mul_assoc d]; omega
    rw [lgRun_up o m d k, lgStep_up, e]
theorem log2_twice {x : Nat} (h0 : x ≠ 0) : Nat.log2 (2 * x) = Nat.log2 x + 1 := by
  refine (Nat.log2_eq_iff (by omega)).2 ⟨?_, ?_⟩
  · have := Nat.log2_self_le h0
    rw [Nat.pow_succ]; omega
  · have : x < 2 ^ (Nat.log2 x + 1) := Nat.lt_log2_self
    rw [Nat.pow_succ]; omega
theorem lg_twice {x : Nat} (h0 : x ≠ 0) (h : x < 4611686018427387904) : lg (2 * x) = lg x + 65536 := by
  have hl : Nat.log2 x < 62 := (Nat.log2_lt h0).2 (by omega)
  have hm : mant (2 * x) = mant x := by
    unfold mant
    rw [log2_twice h0, show 63 - Nat.log2 x = (63 - (Nat.log2 x + 1)) + 1 by omega, Nat.pow_succ]
    congr 1
    rw [Nat.mul_comm 2 x, Nat.mul_assoc, Nat.mul_comm 2]
  unfold lg
  rw [log2_twice h0, hm, lgRun_up]
theorem lg_whole {x : Nat} (h0 : x ≠ 0) (h : x < 2 ^ 64) : lg x / 65536 = Nat.log2 x ∧ x / 2 ^ Nat.log2 x = 1 := by
  have := lg_at x h0 h
  refine ⟨by omega, ?_⟩
  have h1 := Nat.log2_self_le h0
  have h2 : x < 2 ^ (Nat.log2 x + 1) := Nat.lt_log2_self
  rw [Nat.pow_succ] at h2
  exact (Nat.div_eq_iff (Nat.two_pow_pos _)).2 (by omega)

theorem exStep_low (x y k m : Nat) (h : x % 65536 = y % 65536) (hk : k < 16) : exStep x k m = exStep y k m := by
  have key : ∀ z : Nat, z / 2 ^ (15 - k) % 2 = z % 65536 / 2 ^ (15 - k) % 2 := by
    intro z
    have e : (65536 : Nat) = 2 ^ (15 - k) * 2 ^ (k + 1) := by rw [← Nat.pow_add, show 15 - k + (k + 1) = 16 by omega]
    rw [e, Nat.mod_mul_right_div_self, Nat.mod_mod_of_dvd _ (by rw [Nat.pow_succ]; exact Nat.dvd_mul_left 2 _)]
  unfold exStep
  rw [key x, key y, h]
theorem exRun_low (x y : Nat) (h : x % 65536 = y % 65536) : ∀ k, k ≤ 16 → exRun x k = exRun y k
  | 0, _ => rfl
  | k + 1, hk => by
    show exStep x k (exRun x k) = exStep y k (exRun y k)
    rw [exRun_low x y h k (by omega), exStep_low x y k _ h (by omega)]
theorem ex_falls (x n : Nat) : ex (x + n * 65536) = ex x / 2 ^ n := by
  have e : exRun (x + n * 65536) 16 = exRun x 16 := exRun_low _ _ (by omega) 16 (by omega)
  have ew : (x + n * 65536) / 65536 = x / 65536 + n := by omega
  have hb := exRun_bd x 16
  unfold ex
  rw [ew, e]
  by_cases h1 : 40 < x / 65536
  · rw [if_pos h1, if_pos (by omega), Nat.zero_div]
  · rw [if_neg h1, Nat.div_div_eq_div_mul (exRun x 16 / 1073741824), ← Nat.pow_add]
    by_cases h2 : 40 < x / 65536 + n
    · rw [if_pos h2]
      refine (Nat.div_eq_of_lt ?_).symm
      have : 2 ^ 41 ≤ 2 ^ (x / 65536 + n) := Nat.pow_le_pow_right (by omega) (by omega)
      omega
    · rw [if_neg h2]
theorem ex_zero : ex 0 = 4294967296 := by decide +kernel
theorem shr_min (a n : Nat) (h : a < 2 ^ 64) : a / 2 ^ min n 64 = a / 2 ^ n := by
  rcases Nat.le_total n 64 with h' | h'
  · rw [Nat.min_eq_left h']
  · rw [Nat.min_eq_right h', Nat.div_eq_of_lt h, Nat.div_eq_of_lt (Nat.lt_of_lt_of_le h (Nat.pow_le_pow_right (by omega) h'))]

end Go.Proofs.Ytnphpnkfdnnmbaa
