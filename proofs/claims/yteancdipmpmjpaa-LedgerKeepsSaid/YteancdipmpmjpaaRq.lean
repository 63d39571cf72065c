/-
  The rounded quotient by a number above 0, in the words of floors. No program in sight.
-/
import Derived.Test.YteancdipmpmjpaaDq03
namespace Go.Proofs.Yteancdipmpmjpaa
set_option linter.unusedVariables false
theorem rq_split (z b : Int) (hb : 0 < b) : ∃ (m : Bool) (q r d : Nat), b = d ∧ 0 < d ∧ r < d ∧ m = decide (z < 0) ∧ (m = false → z = d * q + r) ∧ (m = true → z = -(d * q + r) ∧ 0 < d * q + r) ∧
    ∀ mode, rq z b mode = wv m (q + if upB mode r d m then 1 else 0) := by
  obtain ⟨d, rfl⟩ : ∃ d : Nat, b = d := ⟨b.toNat, by omega⟩
  refine ⟨decide (z < 0), z.natAbs / d, z.natAbs % d, d, rfl, by omega, Nat.mod_lt _ (by omega), rfl, fun h => ?_, fun h => ?_, fun mode => ?_⟩
  · have := Nat.div_add_mod z.natAbs d
    have h' : ¬ z < 0 := by simpa using h
    have e : z = (z.natAbs : Int) := by omega
    rw [← Int.natCast_mul]
    omega
  · have := Nat.div_add_mod z.natAbs d
    have h' : z < 0 := by simpa using h
    rw [← Int.natCast_mul]
    omega
  · unfold rq qMag
    have e : decide ((d : Int) < 0) = false := decide_eq_false (by omega)
    simp only [e, Int.natAbs_natCast, Bool.bne_false]
theorem ediv_two {d : Int} (hd : 0 < d) (q s : Int) : (2 * (d * q) + s) / (2 * d) = q + s / (2 * d) := by
  rw [← Int.mul_assoc, Int.add_comm, Int.add_mul_ediv_left _ _ (by omega), Int.add_comm]
theorem ediv_one {d : Int} (hd : 0 < d) (q s : Int) : (d * q + s) / d = q + s / d := by
  rw [Int.add_comm, Int.add_mul_ediv_left _ _ (by omega), Int.add_comm]
theorem small_div {s d : Int} (k : Int) (h0 : k * d ≤ s) (h1 : s < (k + 1) * d) (hd : 0 < d) : s / d = k := by
  have a := Int.le_ediv_of_mul_le hd h0
  have b := Int.ediv_lt_of_lt_mul hd h1
  omega
/-- Rounded to the nearer one. -/
theorem rq_near (z b : Int) (hb : 0 < b) : rq z b 2 = (2 * z + b) / (2 * b) := by
  obtain ⟨m, q, r, d, rfl, hd, hr, hm, h0, h1, h⟩ := rq_split z b hb
  rw [h]
  cases m
  · rw [h0 rfl, show 2 * ((d : Int) * q + r) + d = 2 * (d * q) + (2 * r + d) by omega, ediv_two (by omega)]
    unfold upB wv
    by_cases e : (d : Int) ≤ 2 * r
    · rw [small_div (d := 2 * (d : Int)) 1 (by omega) (by omega) (by omega)]
      have e4 : ¬ r = 0 := by omega
      by_cases e2 : d < 2 * r
      · simp [e2, e4]
      · have e3 : 2 * r = d := by omega
        simp [e3, e4]
    · rw [small_div (d := 2 * (d : Int)) 0 (by omega) (by omega) (by omega)]
      have e2 : ¬ d < 2 * r := by omega
      have e3 : ¬ 2 * r = d := by omega
      by_cases e4 : r = 0 <;> simp [e2, e3, e4]
  · rw [(h1 rfl).1, show 2 * (-((d : Int) * q + r)) + d = 2 * (d * -q) + (d - 2 * r) by rw [Int.mul_neg (d : Int) q]; omega, ediv_two (by omega)]
    unfold upB wv
    by_cases e : (d : Int) < 2 * r
    · rw [small_div (d := 2 * (d : Int)) (-1) (by omega) (by omega) (by omega)]
      have e4 : ¬ r = 0 := by omega
      have e5 : d < 2 * r := by omega
      simp [e4, e5]; omega
    · rw [small_div (d := 2 * (d : Int)) 0 (by omega) (by omega) (by omega)]
      have e5 : ¬ d < 2 * r := by omega
      by_cases e4 : r = 0 <;> simp [e4, e5]
/-- Rounded down. -/
theorem rq_down (z b : Int) (hb : 0 < b) : rq z b 0 = z / b := by
  obtain ⟨m, q, r, d, rfl, hd, hr, hm, h0, h1, h⟩ := rq_split z b hb
  rw [h]
  cases m
  · rw [h0 rfl, ediv_one (by omega), small_div 0 (by omega) (by omega) (by omega)]
    unfold upB wv
    by_cases e4 : r = 0 <;> simp [e4]
  · rw [(h1 rfl).1, show -((d : Int) * q + r) = d * -q + -r by rw [Int.mul_neg (d : Int) q]; omega, ediv_one (by omega)]
    unfold upB wv
    by_cases e4 : r = 0
    · simp [e4]
    · rw [small_div (-1) (by omega) (by omega) (by omega)]
      simp [e4]; omega
/-- Rounded up. -/
theorem rq_up (z b : Int) (hb : 0 < b) : rq z b 1 = -(-z / b) := by
  obtain ⟨m, q, r, d, rfl, hd, hr, hm, h0, h1, h⟩ := rq_split z b hb
  rw [h]
  cases m
  · rw [h0 rfl, show -((d : Int) * q + r) = d * -q + -r by rw [Int.mul_neg (d : Int) q]; omega, ediv_one (by omega)]
    unfold upB wv
    by_cases e4 : r = 0
    · simp [e4]
    · rw [small_div (-1) (by omega) (by omega) (by omega)]
      simp [e4]; omega
  · rw [(h1 rfl).1, Int.neg_neg, ediv_one (by omega), small_div 0 (by omega) (by omega) (by omega)]
    unfold upB wv
    by_cases e4 : r = 0 <;> simp [e4]
theorem divM_near {z b : Int} (hb : 0 < b) (h0 : -9223372036854775808 ≤ (2 * z + b) / (2 * b)) (h1 : (2 * z + b) / (2 * b) < 9223372036854775808) : divM z b 2 = ((2 * z + b) / (2 * b), 0) := by
  have e := rq_near z b hb
  have f : badB b 2 = false := by unfold badB; rw [decide_eq_false (by omega)]; rfl
  rw [divM_fit f (by rw [e]; unfold fits64; rw [decide_eq_true h0, decide_eq_true h1]; rfl), e]
theorem divM_down {z b : Int} (hb : 0 < b) (h0 : -9223372036854775808 ≤ z / b) (h1 : z / b < 9223372036854775808) : divM z b 0 = (z / b, 0) := by
  have e := rq_down z b hb
  have f : badB b 0 = false := by unfold badB; rw [decide_eq_false (by omega)]; rfl
  rw [divM_fit f (by rw [e]; unfold fits64; rw [decide_eq_true h0, decide_eq_true h1]; rfl), e]
theorem divM_up {z b : Int} (hb : 0 < b) (h0 : -9223372036854775808 ≤ -(-z / b)) (h1 : -(-z / b) < 9223372036854775808) : divM z b 1 = (-(-z / b), 0) := by
  have e := rq_up z b hb
  have f : badB b 1 = false := by unfold badB; rw [decide_eq_false (by omega)]; rfl
  rw [divM_fit f (by rw [e]; unfold fits64; rw [decide_eq_true h0, decide_eq_true h1]; rfl), e]
end Go.Proofs.Yteancdipmpmjpaa
