/-
  What rounding costs, kept as a bound: the plain law. No program in sight.
-/
import Derived.Test.YteancdipmpmjpaaRq
namespace Go.Proofs.Yteancdipmpmjpaa
set_option linter.unusedVariables false
/-- A quotient, rounded up. -/
def cdiv (a b : Int) : Int := -(-a / b)
theorem cdiv_le {a b x : Int} (hb : 0 < b) : cdiv a b ≤ x ↔ a ≤ x * b := by
  unfold cdiv
  have := Int.le_ediv_iff_mul_le (a := -x) (b := -a) hb
  rw [Int.neg_mul] at this
  omega
theorem cdiv_nonneg {a b : Int} (ha : 0 ≤ a) (hb : 0 < b) : 0 ≤ cdiv a b := by
  have := (cdiv_le (a := a) (x := -1) hb).1
  by_cases h : cdiv a b ≤ -1
  · have := this h; omega
  · omega
/-- The same, never more than one. -/
def ups (a b : Int) : Int := if b = 0 then 1099511627776 else min (cdiv a b) 1099511627776
theorem ups_bd {a b : Int} (ha : 0 ≤ a) (hb : 0 ≤ b) : 0 ≤ ups a b ∧ ups a b ≤ 1099511627776 := by
  unfold ups
  split
  · omega
  · have := cdiv_nonneg ha (show 0 < b by omega)
    omega
theorem ups_case {a b : Int} (ha : 0 ≤ a) (hb : 0 ≤ b) : (b = 0 ∧ ups a b = 1099511627776) ∨ (0 < b ∧ ups a b = 1099511627776 ∧ 1099511627775 * b < a) ∨
    (0 < b ∧ ups a b < 1099511627776 ∧ a ≤ ups a b * b ∧ (ups a b = 0 ∨ (0 < ups a b ∧ (ups a b - 1) * b < a))) := by
  by_cases h : b = 0
  · exact .inl ⟨h, by unfold ups; rw [if_pos h]⟩
  · have hb' : 0 < b := by omega
    have hn := cdiv_nonneg ha hb'
    have e : ups a b = min (cdiv a b) 1099511627776 := by unfold ups; rw [if_neg h]
    by_cases h2 : 1099511627776 ≤ cdiv a b
    · refine .inr (.inl ⟨hb', by omega, ?_⟩)
      have := (cdiv_le (a := a) (x := 1099511627775) hb').2
      omega
    · have e2 : ups a b = cdiv a b := by omega
      refine .inr (.inr ⟨hb', by omega, (cdiv_le hb').1 (by omega), ?_⟩)
      by_cases h0 : ups a b = 0
      · exact .inl h0
      · refine .inr ⟨by omega, ?_⟩
        have := (cdiv_le (a := a) (x := ups a b - 1) hb').2
        omega
theorem divM_ups {a b : Int} (ha : 0 ≤ a) (hb : 0 < b) : divM a b 1 = (cdiv a b, 0) ∧ 0 ≤ cdiv a b ∧ cdiv a b ≤ 9223372036854775807 ∨ (∃ y c, divM a b 1 = (y, c) ∧ (c != 0) = true) ∧ 1099511627776 ≤ cdiv a b := by
  have hn := cdiv_nonneg ha hb
  by_cases h : cdiv a b ≤ 9223372036854775807
  · exact .inl ⟨by unfold cdiv at h hn; exact divM_up hb (by omega) (by omega), hn, h⟩
  · refine .inr ⟨⟨0, 10, ?_, rfl⟩, by omega⟩
    have f : badB b 1 = false := by unfold badB; rw [decide_eq_false (by omega)]; rfl
    have e := rq_up a b hb
    refine divM_sat f ?_
    rw [e]
    unfold fits64
    rw [decide_eq_false (show ¬ (-(-a / b) : Int) < 9223372036854775808 by unfold cdiv at h; omega), Bool.and_false]
/-- What rounding costs. -/
def cost18 (n : Int) : Int := ups (n * 1099511627776) (1073741824 - 4 * n)
theorem cost_bd {n : Int} (h0 : 0 ≤ n) (h1 : n ≤ 4096) : divM (n * 1099511627776) (1073741824 - 4 * n) 1 = (cost18 n, 0) ∧ 0 ≤ cost18 n ∧ cost18 n ≤ 4200000 := by
  have hb : 0 < 1073741824 - 4 * n := by omega
  have h2 : cdiv (n * 1099511627776) (1073741824 - 4 * n) ≤ 4200000 := (cdiv_le hb).2 (by omega)
  have hn := cdiv_nonneg (show 0 ≤ n * 1099511627776 by omega) hb
  have e : cost18 n = cdiv (n * 1099511627776) (1073741824 - 4 * n) := by unfold cost18 ups; rw [if_neg (by omega)]; omega
  rw [e]
  refine ⟨?_, hn, h2⟩
  unfold cdiv at h2 hn ⊢
  exact divM_up hb (by omega) (by omega)
/-- Two bounds together. -/
def plus18 (a b : Int) : Int := if a + b > 1099511627776 then 1099511627776 else a + b
theorem plus_min {a b : Int} (b0 : 0 ≤ b) (b1 : b ≤ 1099511627776) : min a (1099511627776 - min b 1099511627776) + min b 1099511627776 = plus18 a b := by unfold plus18; split <;> omega
theorem plus_bd {a b : Int} (a0 : 0 ≤ a) (b0 : 0 ≤ b) : 0 ≤ plus18 a b ∧ plus18 a b ≤ 1099511627776 := by unfold plus18; split <;> omega
def scal18 (b most s z : Int) : Int := ups (b * (most * s)) z
theorem prod_bd {b m s : Int} (b0 : 0 ≤ b) (b1 : b ≤ 1099511627776) (m0 : 0 ≤ m) (m1 : m ≤ 65536) (s0 : 0 ≤ s) (s1 : s ≤ 1073741824) : (0 ≤ m * s ∧ m * s ≤ 70368744177664) ∧ 0 ≤ b * (m * s) ∧ b * (m * s) ≤ 77371252455336267181195264 := by
  have h1 := Int.mul_nonneg m0 s0
  have h2 := Int.mul_le_mul m1 s1 s0 (by omega)
  have h3 := Int.mul_nonneg b0 h1
  have h4 := Int.mul_le_mul b1 (show m * s ≤ 70368744177664 by omega) h1 (by omega)
  omega
end Go.Proofs.Yteancdipmpmjpaa
