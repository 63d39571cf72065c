/-
  Arcs and quarters: what both texts compute, in plain Lean. No program in sight.
-/
import Derived.Test.YtogbnecgikbkmaaTs31
namespace Go.Proofs.Ytogbnecgikbkmaa
set_option linter.unusedVariables false
/-! ### A quarter and half a turn further -/
theorem sinA_quarter (a : Int) (h : 0 ≤ a ∧ a ≤ 4294967295) : sinA ((a + 1073741824) % 4294967296) = ((sinA a).2, -(sinA a).1) := by
  have e : ((a + 1073741824) % 4294967296) % 1073741824 = a % 1073741824 := by omega
  unfold sinA
  rw [e]
  generalize stps (gainP (a % 1073741824)) 30 = p
  have hq : a / 1073741824 = 0 ∧ ((a + 1073741824) % 4294967296) / 1073741824 = 1 ∨ a / 1073741824 = 1 ∧ ((a + 1073741824) % 4294967296) / 1073741824 = 2 ∨ a / 1073741824 = 2 ∧ ((a + 1073741824) % 4294967296) / 1073741824 = 3 ∨ a / 1073741824 = 3 ∧ ((a + 1073741824) % 4294967296) / 1073741824 = 0 := by omega
  rcases hq with ⟨h1, h2⟩ | ⟨h1, h2⟩ | ⟨h1, h2⟩ | ⟨h1, h2⟩ <;> rw [h1, h2] <;> simp
theorem sinA_half (a : Int) (h : 0 ≤ a ∧ a ≤ 4294967295) : sinA ((a + 2147483648) % 4294967296) = (-(sinA a).1, -(sinA a).2) := by
  have e : ((a + 2147483648) % 4294967296) % 1073741824 = a % 1073741824 := by omega
  unfold sinA
  rw [e]
  generalize stps (gainP (a % 1073741824)) 30 = p
  have hq : a / 1073741824 = 0 ∧ ((a + 2147483648) % 4294967296) / 1073741824 = 2 ∨ a / 1073741824 = 1 ∧ ((a + 2147483648) % 4294967296) / 1073741824 = 3 ∨ a / 1073741824 = 2 ∧ ((a + 2147483648) % 4294967296) / 1073741824 = 0 ∨ a / 1073741824 = 3 ∧ ((a + 2147483648) % 4294967296) / 1073741824 = 1 := by omega
  rcases hq with ⟨h1, h2⟩ | ⟨h1, h2⟩ | ⟨h1, h2⟩ | ⟨h1, h2⟩ <;> rw [h1, h2] <;> simp
theorem sinA_bd (a : Int) : (-35184372088832 ≤ (sinA a).1 ∧ (sinA a).1 ≤ 35184372088832) ∧ (-35184372088832 ≤ (sinA a).2 ∧ (sinA a).2 ≤ 35184372088832) := by
  have hb := stps_bd _ (gain_bd (a % 1073741824)) 30 (by omega)
  have hB := bnd_le 30 (by omega)
  unfold sinA
  generalize stps (gainP (a % 1073741824)) 30 = p at *
  unfold Bd at hb
  split
  · dsimp only; omega
  · split
    · dsimp only; omega
    · split <;> (dsimp only; omega)
/-! ### The scale -/
def sclF : Nat → Int → Nat
  | 0, _ => 0
  | f + 1, M => if 1099511627776 ≤ M then 0 else 1 + sclF f (2 * M)
theorem sclF_stop (f : Nat) (M : Int) (h : 1099511627776 ≤ M) : sclF f M = 0 := by
  cases f with
  | zero => rfl
  | succ f => unfold sclF; rw [if_pos h]
theorem sclF_go (f : Nat) (M : Int) (h : M < 1099511627776) : sclF (f + 1) M = 1 + sclF f (2 * M) := by
  rw [sclF, if_neg (by omega)]
theorem sclF_le : ∀ (f : Nat) (M : Int), sclF f M ≤ f
  | 0, _ => Nat.le_refl _
  | f + 1, M => by
    unfold sclF
    split
    · omega
    · have := sclF_le f (2 * M); omega
theorem sclF_bd : ∀ (f : Nat) (M : Int), 0 ≤ M → M ≤ 2199023255552 → M * 2 ^ sclF f M ≤ 2199023255552
  | 0, M, _, h => by simpa [sclF] using h
  | f + 1, M, h0, h => by
    unfold sclF
    split
    · simpa using h
    · have := sclF_bd f (2 * M) (by omega) (by omega)
      rw [show 1 + sclF f (2 * M) = sclF f (2 * M) + 1 by omega, Int.pow_succ, ← Int.mul_assoc, Int.mul_right_comm, Int.mul_comm M 2]
      exact this
/-- The greater of both, without their signs. -/
def mag (a b : Int) : Int := max a (max b (-b))
/-! ### The turns towards the first axis -/
theorem prt_nonneg {x : Int} (n : Nat) (h : 0 ≤ x) : 0 ≤ prt x n := by
  unfold prt
  split
  · exact h
  · rename_i hn
    obtain ⟨e, hp⟩ := two_halves n hn
    rw [e]
    generalize (2 : Int) ^ (n - 1) = H at *
    exact Int.ediv_nonneg (by omega) (by omega)
theorem prt_nonpos {x : Int} (n : Nat) (h : x ≤ 0) : prt x n ≤ 0 := by
  unfold prt
  split
  · exact h
  · rename_i hn
    obtain ⟨e, hp⟩ := two_halves n hn
    rw [e]
    generalize (2 : Int) ^ (n - 1) = H at *
    have : (x + H) / (2 * H) < 1 := Int.ediv_lt_of_lt_mul (by omega) (by omega)
    omega
theorem stqs_x (p : Pt) : ∀ i, 0 ≤ p.x → 0 ≤ (stqs p i).x
  | 0, h => h
  | i + 1, h => by
    have h1 := stqs_x p i h
    unfold stqs stq
    split
    · rename_i hy
      have := prt_nonneg i (show 0 ≤ (stqs p i).y by omega)
      dsimp only; omega
    · rename_i hy
      have := prt_nonpos i (show (stqs p i).y ≤ 0 by omega)
      dsimp only; omega
/-- What the sum of the arcs begins with changes nothing else. -/
theorem stqs_shift (x y z : Int) : ∀ i, stqs ⟨x, y, z⟩ i = ⟨(stqs ⟨x, y, 0⟩ i).x, (stqs ⟨x, y, 0⟩ i).y, z + (stqs ⟨x, y, 0⟩ i).z⟩
  | 0 => by simp [stqs]
  | i + 1 => by
    unfold stqs
    rw [stqs_shift x y z i]
    unfold stq
    dsimp only
    split
    · dsimp only; congr 1; omega
    · dsimp only; congr 1; omega
/-- What is told of a place: turned into the right half (base: what that took), scaled, turned. -/
def arcP (a b : Int) : Pt := stqs ⟨a * 2 ^ sclF 40 (mag a b), b * 2 ^ sclF 40 (mag a b), 0⟩ 30
def arcR (a b : Int) : Int := ((arcP a b).x * 652032874 + 536870912) / 1073741824
def arcZ (base a b : Int) : Int := (base + (arcP a b).z) % 4294967296
def cut40 (x : Int) : Int := if x > 1099511627776 then 1099511627776 else if x < -1099511627776 then -1099511627776 else x
/-- The angle and the distance. -/
def arcA2 (x y : Int) : Int × Int :=
  if cut40 x = 0 ∧ cut40 y = 0 then (0, 0)
  else if cut40 x < 0 then (arcZ 2147483648 (-(cut40 x)) (-(cut40 y)), prt (arcR (-(cut40 x)) (-(cut40 y))) (sclF 40 (mag (-(cut40 x)) (-(cut40 y)))))
  else (arcZ 0 (cut40 x) (cut40 y), prt (arcR (cut40 x) (cut40 y)) (sclF 40 (mag (cut40 x) (cut40 y))))
theorem arc_start {a b : Int} (ha : 0 ≤ a) (hM : mag a b ≤ 1099511627776) : Bd (bnd 0) ⟨a * 2 ^ sclF 40 (mag a b), b * 2 ^ sclF 40 (mag a b), 0⟩ := by
  have h0 : 0 ≤ mag a b := by unfold mag; omega
  have h1 := sclF_bd 40 (mag a b) h0 (by omega)
  have h2 : (0 : Int) ≤ 2 ^ sclF 40 (mag a b) := Int.le_of_lt (Int.pow_pos (by omega))
  generalize (2 : Int) ^ sclF 40 (mag a b) = P at *
  have k1 := Int.mul_le_mul_of_nonneg_right (show a ≤ mag a b by unfold mag; omega) h2
  have k2 := Int.mul_le_mul_of_nonneg_right (show b ≤ mag a b by unfold mag; omega) h2
  have k3 := Int.mul_le_mul_of_nonneg_right (show -b ≤ mag a b by unfold mag; omega) h2
  have k4 := Int.mul_nonneg ha h2
  rw [Int.neg_mul] at k3
  unfold Bd bnd
  dsimp only
  omega
theorem arcP_bd {a b : Int} (ha : 0 ≤ a) (hM : mag a b ≤ 1099511627776) : 0 ≤ (arcP a b).x ∧ (arcP a b).x ≤ 35184372088832 := by
  have hb := stqs_bd _ (arc_start ha hM) 30 (by omega)
  have hB := bnd_le 30 (by omega)
  have hx := stqs_x ⟨a * 2 ^ sclF 40 (mag a b), b * 2 ^ sclF 40 (mag a b), 0⟩ 30 (Int.mul_nonneg ha (Int.le_of_lt (Int.pow_pos (by omega))))
  unfold arcP
  unfold Bd at hb
  omega
theorem arcR_bd {a b : Int} (ha : 0 ≤ a) (hM : mag a b ≤ 1099511627776) : 0 ≤ arcR a b ∧ arcR a b ≤ 35184372088832 := by
  have h := arcP_bd ha hM
  unfold arcR
  omega
end Go.Proofs.Ytogbnecgikbkmaa
