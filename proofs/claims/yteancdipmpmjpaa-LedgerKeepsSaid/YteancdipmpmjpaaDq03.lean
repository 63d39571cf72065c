/-
  The quotient of two whole numbers, rounded as told, as one of 64 bits: what both texts compute, in plain Lean. No program in sight.
-/
import Derived.Test.YteancdipmpmjpaaDp03
namespace Go.Proofs.Yteancdipmpmjpaa

/-- Is the quotient's magnitude one more? By what is left of it, the divisor, and its sign. -/
def upB (mode : Int) (r d : Nat) (minus : Bool) : Bool :=
  if r = 0 then false else if mode = 0 then minus else if mode = 1 then !minus else if mode = 2 then (decide (d < 2 * r) || (decide (2 * r = d) && !minus)) else false
/-- A magnitude with its sign. -/
def wv (m : Bool) (a : Nat) : Int := if m then -(a : Int) else a
def qMag (z b mode : Int) : Nat := z.natAbs / b.natAbs + if upB mode (z.natAbs % b.natAbs) b.natAbs (decide (z < 0) != decide (b < 0)) then 1 else 0
/-- The quotient, rounded. -/
def rq (z b mode : Int) : Int := wv (decide (z < 0) != decide (b < 0)) (qMag z b mode)
def fits64 (x : Int) : Bool := decide (-9223372036854775808 ≤ x) && decide (x < 9223372036854775808)
/-- The quotient and its code. -/
def divM (z b mode : Int) : Int × Int :=
  if b = 0 ∨ mode < 0 ∨ 3 < mode then (0, 1) else if fits64 (rq z b mode) then (rq z b mode, 0) else (0, 10)
/-- May the quotient be asked for? -/
def badB (b mode : Int) : Bool := decide (b = 0) || decide (mode < 0) || decide (3 < mode)
theorem divM_bad {z b mode : Int} (h : badB b mode = true) : divM z b mode = (0, 1) := by
  unfold badB at h; unfold divM
  simp only [Bool.or_eq_true, decide_eq_true_eq] at h
  rw [if_pos]; rcases h with (h | h) | h
  · exact .inl h
  · exact .inr (.inl h)
  · exact .inr (.inr h)
theorem divM_good {z b mode : Int} (h : badB b mode = false) : divM z b mode = if fits64 (rq z b mode) then (rq z b mode, 0) else (0, 10) := by
  unfold badB at h; unfold divM
  simp only [Bool.or_eq_false_iff, decide_eq_false_iff_not] at h
  rw [if_neg]; rintro (h1 | h1 | h1)
  · exact h.1.1 h1
  · exact h.1.2 h1
  · exact h.2 h1
theorem fits64_iff (x : Int) : fits64 x = true ↔ -9223372036854775808 ≤ x ∧ x ≤ 9223372036854775807 := by
  unfold fits64; simp; omega
theorem divM_bd (z b mode : Int) : -9223372036854775808 ≤ (divM z b mode).1 ∧ (divM z b mode).1 ≤ 9223372036854775807 := by
  cases h : badB b mode
  · rw [divM_good h]
    cases h2 : fits64 (rq z b mode)
    · rw [if_neg (by simp)]; simp
    · rw [if_pos rfl]; have := (fits64_iff _).1 h2; simpa using this
  · rw [divM_bad h]; simp
theorem divM_code (z b mode : Int) : (divM z b mode).2 = 0 ∨ (divM z b mode).2 = 1 ∨ (divM z b mode).2 = 10 := by
  cases h : badB b mode
  · rw [divM_good h]
    cases h2 : fits64 (rq z b mode)
    · rw [if_neg (by simp)]; simp
    · rw [if_pos rfl]; simp
  · rw [divM_bad h]; simp
theorem divM_fit {z b mode : Int} (h : badB b mode = false) (h2 : fits64 (rq z b mode) = true) : divM z b mode = (rq z b mode, 0) := by rw [divM_good h, if_pos h2]
theorem divM_sat {z b mode : Int} (h : badB b mode = false) (h2 : fits64 (rq z b mode) = false) : divM z b mode = (0, 10) := by rw [divM_good h, if_neg (by rw [h2]; simp)]
/-- Of a magnitude and its sign: has it room in 64 bits? -/
theorem fits64_wv (m : Bool) (a : Nat) : fits64 (wv m a) = if m then decide (a ≤ 9223372036854775808) else decide (a < 9223372036854775808) := by
  unfold fits64 wv
  cases m
  · by_cases h : a < 9223372036854775808
    · simp [h]; omega
    · simp [h]; omega
  · by_cases h : a ≤ 9223372036854775808
    · simp [h]; omega
    · simp [h]; omega
theorem qMag_big {z b mode : Int} (h : b.natAbs * 18446744073709551616 ≤ z.natAbs) (hb : b ≠ 0) : fits64 (rq z b mode) = false := by
  have hb0 : 0 < b.natAbs := by omega
  have h1 : 18446744073709551616 ≤ z.natAbs / b.natAbs := (Nat.le_div_iff_mul_le hb0).2 (by rw [Nat.mul_comm]; exact h)
  unfold rq
  rw [fits64_wv]
  have h2 : 18446744073709551616 ≤ qMag z b mode := by unfold qMag; exact Nat.le_trans h1 (Nat.le_add_right _ _)
  generalize qMag z b mode = q at *
  split <;> exact decide_eq_false (by omega)
theorem big_of_fits {m : Bool} {a : Nat} (h : 18446744073709551616 ≤ a) : fits64 (wv m a) = false := by
  rw [fits64_wv]; split <;> exact decide_eq_false (by omega)
end Go.Proofs.Yteancdipmpmjpaa
