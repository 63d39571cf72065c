/-
  Noise: what both texts compute, in plain Lean. No program in sight.
-/
import Derived.Test.YtnphpnkfdnnmbaaPl32
import Derived.Test.YtnphpnkfdnnmbaaLawA
namespace Go.Proofs.Ytnphpnkfdnnmbaa
set_option linter.unusedVariables false
def nchB (s f g : Int) : Bool := decide (s < 1) || decide (1048576 < s) || decide (f < 1) || decide (16384 < f) || decide (g < 1) || decide (16 < g)
def nchI (s f g : Int) : Int := if nchB s f g then 2 else 0
theorem nchB_ok {s f g : Int} (h : nchB s f g = false) : (1 ≤ s ∧ s ≤ 1048576) ∧ (1 ≤ f ∧ f ≤ 16384) ∧ (1 ≤ g ∧ g ≤ 16) := by
  unfold nchB at h
  simp only [Bool.or_eq_false_iff, decide_eq_false_iff_not] at h
  omega
theorem nchB_no {s f g : Int} (h1 : 1 ≤ s ∧ s ≤ 1048576) (h2 : 1 ≤ f ∧ f ≤ 16384) (h3 : 1 ≤ g ∧ g ≤ 16) : nchB s f g = false := by
  unfold nchB
  simp only [Bool.or_eq_false_iff, decide_eq_false_iff_not]
  omega
/-- The power of a right noise. -/
def pw (s d : Int) : Int := if d < -32 * s then 2621440 else if 32 * s < d then 2621440 else min (nq (d * d * 47274) (s * s)) 2621440
def powI (s f g d : Int) : Int := if nchB s f g then 2621440 else pw s d
theorem sq_bd' {s d : Int} (hs : 1 ≤ s ∧ s ≤ 1048576) (h1 : -32 * s ≤ d) (h2 : d ≤ 32 * s) : 0 ≤ d * d ∧ d * d ≤ 1125899906842624 ∧ 1 ≤ s * s ∧ s * s ≤ 1099511627776 ∧ d * d ≤ 1024 * (s * s) := by
  have a : d.natAbs ≤ 32 * s.natAbs := by omega
  have b := Nat.mul_le_mul a a
  have c : s.natAbs ≤ 1048576 := by omega
  have e := Nat.mul_le_mul c c
  have e1 : 1 ≤ s.natAbs * s.natAbs := Nat.mul_pos (by omega) (by omega)
  rw [show 32 * s.natAbs * (32 * s.natAbs) = 1024 * (s.natAbs * s.natAbs) by rw [Nat.mul_mul_mul_comm]] at b
  rw [← Int.natAbs_mul, ← Int.natAbs_mul] at b
  rw [← Int.natAbs_mul] at e e1
  have hd : 0 ≤ d * d := by
    rcases Int.le_total 0 d with h | h
    · exact Int.mul_nonneg h h
    · exact Int.mul_nonneg_of_nonpos_of_nonpos h h
  have hss : 0 ≤ s * s := Int.mul_nonneg (by omega) (by omega)
  omega
theorem nq_pos {z b : Int} (hz : 0 ≤ z) (hb : 0 < b) : 0 ≤ nq z b := by
  unfold nq
  exact Int.ediv_nonneg (by omega) (by omega)
theorem pw_bd (s d : Int) (hs : 1 ≤ s ∧ s ≤ 1048576) : 0 ≤ pw s d ∧ pw s d ≤ 2621440 := by
  unfold pw
  split
  · omega
  · split
    · omega
    · have h := sq_bd' hs (d := d) (by omega) (by omega)
      have := nq_pos (z := d * d * 47274) (b := s * s) (by omega) (by omega)
      omega
/-- How much it is believed, of a right noise. -/
def wt (s f d : Int) : Int := nq ((ex (pw s d).toNat : Int) * (65536 - f)) 4294967296 + f
def wtI (s f g d : Int) : Int := if nchB s f g then 0 else wt s f d
theorem wt_bd (s f d : Int) (hf : 1 ≤ f ∧ f ≤ 16384) : f ≤ wt s f d ∧ wt s f d ≤ 65536 := by
  have h := ex_bd (pw s d).toNat
  have a := Int.mul_nonneg (show 0 ≤ (ex (pw s d).toNat : Int) by omega) (show 0 ≤ 65536 - f by omega)
  have b := Int.mul_le_mul_of_nonneg_right (show (ex (pw s d).toNat : Int) ≤ 4294967296 by omega) (show 0 ≤ 65536 - f by omega)
  unfold wt
  generalize (ex (pw s d).toNat : Int) * (65536 - f) = z at *
  unfold nq
  omega
def farI (s f g d : Int) : Bool := nchB s f g || (decide (d < -(g * s)) || decide (g * s < d))
def lgI (s f g d : Int) : Int := if nchB s f g then -2621440 else (lg (wt s f d).toNat : Int) - 1048576
theorem pw_zero (s : Int) (hs : 1 ≤ s ∧ s ≤ 1048576) : pw s 0 = 0 := by
  have h := sq_bd' hs (d := 0) (by omega) (by omega)
  unfold pw
  rw [if_neg (by omega), if_neg (by omega)]
  have e : nq (0 * 0 * 47274) (s * s) = 0 := by
    unfold nq
    simp only [Int.zero_mul, Int.mul_zero]
    exact Int.ediv_eq_zero_of_lt (by omega) (by omega)
  rw [e]
  rfl
theorem wt_zero (s f : Int) (hs : 1 ≤ s ∧ s ≤ 1048576) : wt s f 0 = 65536 := by
  unfold wt
  rw [pw_zero s hs, show (0 : Int).toNat = 0 from rfl, ex_zero]
  unfold nq
  omega
theorem pw_neg (s d : Int) (hs : 1 ≤ s) : pw s (-d) = pw s d := by
  unfold pw
  have e : -d * -d = d * d := by rw [Int.neg_mul_neg]
  rw [e]
  by_cases h1 : d < -32 * s
  · rw [if_neg (by omega), if_pos (by omega), if_pos h1]
  · by_cases h2 : 32 * s < d
    · rw [if_pos (by omega), if_neg h1, if_pos h2]
    · rw [if_neg (by omega), if_neg (by omega), if_neg h1, if_neg h2]
theorem wt_neg (s f d : Int) (hs : 1 ≤ s) : wt s f (-d) = wt s f d := by unfold wt; rw [pw_neg s d hs]
theorem nq_mono {z z' b : Int} (h : z ≤ z') (hb : 0 < b) : nq z b ≤ nq z' b := by
  unfold nq
  exact Int.ediv_le_ediv (by omega) (by omega)
theorem nq_anti {z b b' : Int} (hz : 0 ≤ z) (hb : 0 < b) (h : b ≤ b') : nq z b' ≤ nq z b := by
  have h1 : 0 ≤ nq z b' := nq_pos hz (by omega)
  have h2 : 2 * b' * nq z b' ≤ 2 * z + b' := Int.mul_ediv_self_le (by omega)
  generalize nq z b' = q at *
  unfold nq
  apply Int.le_ediv_of_mul_le (by omega)
  by_cases h0 : q = 0
  · subst h0; omega
  · have h3 : b * (2 * q - 1) ≤ b' * (2 * q - 1) := Int.mul_le_mul_of_nonneg_right h (by omega)
    rw [Int.mul_sub, Int.mul_sub, Int.mul_left_comm, Int.mul_left_comm b' 2] at h3
    rw [Int.mul_assoc] at h2
    rw [Int.mul_left_comm, Int.mul_comm q b]
    omega
theorem pw_mono {s d d' : Int} (hs : 1 ≤ s ∧ s ≤ 1048576) (h0 : 0 ≤ d) (h : d ≤ d') : pw s d ≤ pw s d' := by
  have hb := pw_bd s d hs
  unfold pw at hb ⊢
  by_cases h1 : 32 * s < d'
  · rw [if_neg (show ¬ d' < -32 * s by omega), if_pos h1]
    exact hb.2
  · rw [if_neg (by omega), if_neg (by omega), if_neg (by omega), if_neg h1]
    have := sq_bd' hs (d := d') (by omega) (by omega)
    have e := Int.mul_le_mul h h h0 (by omega)
    have := nq_mono (z := d * d * 47274) (z' := d' * d' * 47274) (b := s * s) (by omega) (by omega)
    omega
theorem pw_wide {s t d : Int} (hs : 1 ≤ s) (h : s ≤ t) (ht : t ≤ 1048576) : pw t d ≤ pw s d := by
  have hb := pw_bd t d (by omega)
  by_cases h1 : d < -32 * s
  · have e : pw s d = 2621440 := by unfold pw; rw [if_pos h1]
    omega
  · by_cases h2 : 32 * s < d
    · have e : pw s d = 2621440 := by unfold pw; rw [if_neg h1, if_pos h2]
      omega
    · unfold pw
      rw [if_neg (by omega), if_neg (by omega), if_neg h1, if_neg h2]
      have k1 := sq_bd' (s := s) ⟨hs, by omega⟩ (d := d) (by omega) (by omega)
      have e := Int.mul_le_mul h h (by omega) (by omega)
      have := nq_anti (z := d * d * 47274) (b := s * s) (b' := t * t) (by omega) (by omega) e
      omega
theorem lgI_le (s f d : Int) (hs : 1 ≤ s ∧ s ≤ 1048576) (hf : 1 ≤ f ∧ f ≤ 16384) : (lg (wt s f d).toNat : Int) - 1048576 ≤ 0 := by
  have h := wt_bd s f d hf
  have := lg_mono (x := (wt s f d).toNat) (y := 65536) (by omega) (by omega)
  have e : lg 65536 = 1048576 := by decide +kernel
  omega
theorem lg_nn (x : Nat) (h0 : x ≠ 0) (h : x ≤ 65536) : lg x ≤ 1048576 := by
  have := lg_mono (x := x) (y := 65536) h0 h
  have e : lg 65536 = 1048576 := by decide +kernel
  omega
end Go.Proofs.Ytnphpnkfdnnmbaa
