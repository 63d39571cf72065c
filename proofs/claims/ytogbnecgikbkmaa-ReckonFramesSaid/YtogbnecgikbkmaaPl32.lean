/-
  Degrees and metres: what both texts compute, in plain Lean. No program in sight.
-/
import Derived.Test.YtogbnecgikbkmaaPu31
import Derived.Test.YtogbnecgikbkmaaRq
namespace Go.Proofs.Ytogbnecgikbkmaa
set_option linter.unusedVariables false
def chkB (a b : Int) : Bool := decide (a < -800000000) || decide (800000000 < a) || decide (b < -1800000000) || decide (1800000000 ≤ b)
def chkI (a b : Int) : Int := if chkB a b then 2 else 0
theorem chkB_ok {a b : Int} (h : chkB a b = false) : (-800000000 ≤ a ∧ a ≤ 800000000) ∧ (-1800000000 ≤ b ∧ b < 1800000000) := by
  unfold chkB at h
  simp only [Bool.or_eq_false_iff, decide_eq_false_iff_not] at h
  omega
def wrapL (x : Int) : Int := (x + 1800000000) % 3600000000 - 1800000000
theorem wrapL_bd (x : Int) : -1800000000 ≤ wrapL x ∧ wrapL x < 1800000000 := by unfold wrapL; omega
theorem wrapL_in {x : Int} (h : -1800000000 ≤ x ∧ x < 1800000000) : wrapL x = x := by unfold wrapL; omega
theorem wrapL_trunc (x : Int) : (x.tmod 3600000000 < -1800000000 → wrapL x = x.tmod 3600000000 + 3600000000) ∧ (1800000000 ≤ x.tmod 3600000000 → wrapL x = x.tmod 3600000000 - 3600000000) ∧ (-1800000000 ≤ x.tmod 3600000000 → x.tmod 3600000000 < 1800000000 → wrapL x = x.tmod 3600000000) ∧ (-3600000000 < x.tmod 3600000000 ∧ x.tmod 3600000000 < 3600000000) := by
  unfold wrapL
  rw [Int.tmod_def]
  by_cases h : 0 ≤ x
  · rw [Int.tdiv_eq_ediv_of_nonneg h]; omega
  · obtain ⟨m, rfl⟩ : ∃ m, x = -m := ⟨-x, by omega⟩
    rw [Int.neg_tdiv, Int.tdiv_eq_ediv_of_nonneg (by omega)]; omega
/-- A quotient, rounded to the nearer one. -/
def nq (z b : Int) : Int := (2 * z + b) / (2 * b)
theorem nq_bd {z b B : Int} (hb : 0 < b) (h1 : -(B * b) ≤ z) (h2 : z ≤ B * b) : -B ≤ nq z b ∧ nq z b ≤ B := by
  unfold nq
  constructor
  · apply Int.le_ediv_of_mul_le (by omega)
    rw [Int.neg_mul, show B * (2 * b) = 2 * (B * b) by rw [← Int.mul_assoc, Int.mul_comm B 2, Int.mul_assoc]]
    omega
  · have : (2 * z + b) / (2 * b) < B + 1 := by
      apply Int.ediv_lt_of_lt_mul (by omega)
      rw [Int.add_mul, show B * (2 * b) = 2 * (B * b) by rw [← Int.mul_assoc, Int.mul_comm B 2, Int.mul_assoc]]
      omega
    omega
theorem divM_nq {z b : Int} (hb : 0 < b) (h : -9223372036854775808 ≤ nq z b ∧ nq z b < 9223372036854775808) : divM z b 2 = (nq z b, 0) := divM_near hb h.1 h.2
theorem nq_one (z : Int) : nq z 1 = z := by unfold nq; omega
/-- The value of a quotient is no further from 0 than the number, and one. -/
theorem divM_small (z b : Int) (hb : 0 ≤ b) (B : Int) (hz : -B ≤ z ∧ z ≤ B) : -B ≤ (divM z b 2).1 ∧ (divM z b 2).1 ≤ B := by
  by_cases h0 : b = 0
  · rw [divM_bad (by subst h0; rfl)]; dsimp only; omega
  · have hb' : 0 < b := by omega
    have hm : B * 1 ≤ B * b := Int.mul_le_mul_of_nonneg_left (by omega) (by omega)
    have hq := nq_bd (z := z) (B := B) hb' (by omega) (by omega)
    unfold divM
    split
    · dsimp only; omega
    · split
      · rw [rq_near z b hb']; exact hq
      · dsimp only; omega
def angL (lat : Int) : Int := nq (wrapL lat * 4294967296) 3600000000
theorem angL_bd (lat : Int) : -2147483648 ≤ angL lat ∧ angL lat ≤ 2147483648 := by
  have h := wrapL_bd lat
  exact nq_bd (by omega) (by omega) (by omega)
def narA (lat : Int) : Int := max (sinA (angL lat % 4294967296)).2 1
theorem narA_bd (lat : Int) : 1 ≤ narA lat ∧ narA lat ≤ 35184372088832 := by
  have h := sinA_bd (angL lat % 4294967296)
  unfold narA
  omega
def farB (x far : Int) : Bool := decide (-far ≤ x) && decide (x ≤ far)
/-- Metres to the east and the north, and the code. -/
def metA (a b c d : Int) : Int × Int × Int :=
  if chkB a b then (0, 0, 2) else if chkB c d then (0, 0, 2)
  else if farB (wrapL (d - b)) 50000000 && farB (c - a) 50000000 then ((divM (wrapL (d - b) * 47811357 * narA a) 4611686018427387904 2).1, nq ((c - a) * 47811357) 4294967296, 0)
  else (0, 0, 9)
def byA (a : Int) : Int := nq (47811357 * narA a) 1073741824
theorem byA_bd (a : Int) : 0 ≤ byA a ∧ byA a ≤ 4611686018427387904 := by
  have h := narA_bd a
  unfold byA nq
  omega
def goLat (a n : Int) : Int := a + nq (n * 4294967296) 47811357
def goLon (a b e : Int) : Int := wrapL (b + (divM (e * 4294967296) (byA a) 2).1)
/-- The place, and the code. -/
def goA (a b e n : Int) : (Int × Int) × Int :=
  if chkB a b then ((0, 0), 2)
  else if farB e 600000 && farB n 600000 then (if chkB (goLat a n) (goLon a b e) then ((0, 0), 2) else ((goLat a n, goLon a b e), 0))
  else ((0, 0), 9)
end Go.Proofs.Ytogbnecgikbkmaa
