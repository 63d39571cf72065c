/-
  Turns that halve: what both texts compute, in plain Lean. No program in sight.
-/
import Derived.Test.YtogbnecgikbkmaaKit
namespace Go.Proofs.Ytogbnecgikbkmaa
set_option linter.unusedVariables false
/-- A number divided by a power of two, rounded to the nearer one. -/
def prt (x : Int) (n : Nat) : Int := if n = 0 then x else (x + 2 ^ (n - 1)) / 2 ^ n
def arcL : List Int := [536870912, 316933406, 167458907, 85004756, 42667331, 21354465, 10679838, 5340245, 2670163, 1335087, 667544, 333772, 166886, 83443, 41722, 20861, 10430, 5215, 2608, 1304, 652, 326, 163, 81, 41, 20, 10, 5, 3, 1]
def arcA (i : Nat) : Int := arcL.getD i 0
theorem arcA_bd (i : Nat) : 0 ≤ arcA i ∧ arcA i ≤ 536870912 := by
  by_cases h : i < 30
  · have : ∀ j, j < 30 → 0 ≤ arcA j ∧ arcA j ≤ 536870912 := by decide
    exact this i h
  · unfold arcA
    rw [List.getD, List.getElem?_eq_none (by simp [arcL]; omega)]; simp
structure Pt where
  x : Int
  y : Int
  z : Int
def stp (i : Nat) (p : Pt) : Pt := if 0 ≤ p.z then ⟨p.x - prt p.y i, p.y + prt p.x i, p.z - arcA i⟩ else ⟨p.x + prt p.y i, p.y - prt p.x i, p.z + arcA i⟩
def stps (p : Pt) : Nat → Pt
  | 0 => p
  | i + 1 => stp i (stps p i)
/-- The other way, towards the first axis. -/
def stq (i : Nat) (p : Pt) : Pt := if 0 < p.y then ⟨p.x + prt p.y i, p.y - prt p.x i, p.z + arcA i⟩ else ⟨p.x - prt p.y i, p.y + prt p.x i, p.z - arcA i⟩
def stqs (p : Pt) : Nat → Pt
  | 0 => p
  | i + 1 => stq i (stqs p i)
def bnd : Nat → Int
  | 0 => 2199023255552
  | i + 1 => bnd i + bnd i / 2 ^ i + 1
theorem bnd_le (i : Nat) (h : i ≤ 30) : 0 ≤ bnd i ∧ bnd i ≤ 35184372088832 := by
  have : ∀ j, j < 31 → 0 ≤ bnd j ∧ bnd j ≤ 35184372088832 := by decide
  exact this i (by omega)
theorem two_halves (n : Nat) (h : n ≠ 0) : (2 : Int) ^ n = 2 * 2 ^ (n - 1) ∧ 0 < (2 : Int) ^ (n - 1) := by
  obtain ⟨m, rfl⟩ : ∃ m, n = m + 1 := ⟨n - 1, by omega⟩
  rw [Int.pow_succ, Nat.add_sub_cancel]
  exact ⟨by omega, Int.pow_pos (by omega)⟩
theorem prt_bd {x B : Int} (n : Nat) (hB : 0 ≤ B) (h1 : -B ≤ x) (h2 : x ≤ B) : -(B / 2 ^ n + 1) ≤ prt x n ∧ prt x n ≤ B / 2 ^ n + 1 := by
  unfold prt
  split
  · rename_i h; subst h
    simp; omega
  · rename_i h
    obtain ⟨e, hp⟩ := two_halves n h
    rw [e]
    generalize (2 : Int) ^ (n - 1) = H at *
    have hq : B < (B / (2 * H) + 1) * (2 * H) := Int.lt_ediv_add_one_mul_self B (by omega)
    generalize B / (2 * H) = q at *
    rw [Int.add_mul] at hq
    constructor
    · apply Int.le_ediv_of_mul_le (by omega)
      rw [Int.neg_mul, Int.add_mul]
      omega
    · have : (x + H) / (2 * H) < q + 2 := by
        apply Int.ediv_lt_of_lt_mul (by omega)
        rw [Int.add_mul]
        omega
      omega
def Bd (B : Int) (p : Pt) : Prop := -B ≤ p.x ∧ p.x ≤ B ∧ -B ≤ p.y ∧ p.y ≤ B
theorem stp_bd (i : Nat) (p : Pt) (h : Bd (bnd i) p) (hi : i ≤ 30) : Bd (bnd (i + 1)) (stp i p) := by
  have h0 := (bnd_le i hi).1
  have hx := prt_bd i h0 h.1 h.2.1
  have hy := prt_bd i h0 h.2.2.1 h.2.2.2
  unfold Bd at h ⊢
  unfold stp bnd
  split <;> (dsimp only; omega)
theorem stq_bd (i : Nat) (p : Pt) (h : Bd (bnd i) p) (hi : i ≤ 30) : Bd (bnd (i + 1)) (stq i p) := by
  have h0 := (bnd_le i hi).1
  have hx := prt_bd i h0 h.1 h.2.1
  have hy := prt_bd i h0 h.2.2.1 h.2.2.2
  unfold Bd at h ⊢
  unfold stq bnd
  split <;> (dsimp only; omega)
theorem stps_bd (p : Pt) (h : Bd (bnd 0) p) : ∀ i, i ≤ 30 → Bd (bnd i) (stps p i)
  | 0, _ => h
  | i + 1, hi => stp_bd i _ (stps_bd p h i (by omega)) (by omega)
theorem stqs_bd (p : Pt) (h : Bd (bnd 0) p) : ∀ i, i ≤ 30 → Bd (bnd i) (stqs p i)
  | 0, _ => h
  | i + 1, hi => stq_bd i _ (stqs_bd p h i (by omega)) (by omega)
theorem stps_z (p : Pt) : ∀ i : Nat, p.z - 536870912 * i ≤ (stps p i).z ∧ (stps p i).z ≤ p.z + 536870912 * i
  | 0 => by simp [stps]
  | i + 1 => by
    have h := stps_z p i
    have ha := arcA_bd i
    unfold stps stp
    split <;> (dsimp only; omega)
theorem stqs_z (p : Pt) : ∀ i : Nat, p.z - 536870912 * i ≤ (stqs p i).z ∧ (stqs p i).z ≤ p.z + 536870912 * i
  | 0 => by simp [stqs]
  | i + 1 => by
    have h := stqs_z p i
    have ha := arcA_bd i
    unfold stqs stq
    split <;> (dsimp only; omega)
/-- Halved n times, each rounded down. -/
theorem half_step (x : Int) (n : Nat) : x / 2 ^ n / 2 = x / 2 ^ (n + 1) := by
  rw [Int.pow_succ, Int.ediv_ediv_of_nonneg (Int.le_of_lt (Int.pow_pos (by omega)))]
end Go.Proofs.Ytogbnecgikbkmaa
