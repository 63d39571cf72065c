/-
  Plain arithmetic of digits: a number times a power of two, and divided by one, digit by digit. No program in sight.
-/
import Derived.Test.YteancdipmpmjpaaDig
namespace Go.Proofs.Yteancdipmpmjpaa
set_option linter.unusedVariables false

/-- Digits that are those of T, place by place, are worth T. -/
theorem val_places {b : Nat} (hb : 2 ≤ b) (o : List Nat) (T : Nat) (h : ∀ i, i < o.length → o.getD i 0 = T / b ^ i % b) (hT : T < b ^ o.length) : val b o = T := by
  have hlt : ∀ x ∈ o, x < b := by
    intro x hx
    obtain ⟨i, hi, rfl⟩ := List.mem_iff_getElem.1 hx
    have := h i hi
    rw [List.getD, List.getElem?_eq_getElem hi] at this
    simp only [Option.getD_some] at this
    rw [this]
    exact Nat.mod_lt _ (by omega)
  suffices hs : ∀ k, k ≤ o.length → val b (o.take k) = T % b ^ k by
    have := hs o.length (Nat.le_refl _)
    rw [List.take_length, Nat.mod_eq_of_lt hT] at this
    exact this
  intro k
  induction k with
  | zero => intro _; simp [val, Nat.mod_one]
  | succ k ih =>
    intro hk
    rw [List.take_succ_eq_append_getElem (by omega), val_append, ih (by omega), List.length_take, Nat.min_eq_left (by omega), mod_pow_step]
    congr 2
    have := h k (by omega)
    rw [List.getD, List.getElem?_eq_getElem (by omega)] at this
    simpa [val] using this

/-- The digit of V * 2^s at place i + 1, b = 2^w. -/
theorem shl_digit (w s V i : Nat) (hs : s ≤ w) : V * 2 ^ s / (2 ^ w) ^ (i + 1) % 2 ^ w = V / (2 ^ w) ^ (i + 1) % 2 ^ w * 2 ^ s % 2 ^ w + V / (2 ^ w) ^ i % 2 ^ w / 2 ^ (w - s) := by
  have hB : 0 < (2 ^ w) ^ i := Nat.pow_pos (Nat.two_pow_pos w)
  have e1 : V * 2 ^ s / (2 ^ w) ^ (i + 1) = V / (2 ^ w) ^ i / 2 ^ (w - s) := by
    have : (2 ^ w) ^ (i + 1) = 2 ^ s * ((2 ^ w) ^ i * 2 ^ (w - s)) := by
      rw [Nat.pow_succ, Nat.mul_left_comm, ← Nat.pow_add, Nat.add_sub_cancel' hs]
    rw [this, Nat.mul_comm V, Nat.mul_div_mul_left _ _ (Nat.two_pow_pos s), Nat.div_div_eq_div_mul]
  have e2 : V / (2 ^ w) ^ (i + 1) = V / (2 ^ w) ^ i / 2 ^ w := by rw [Nat.pow_succ, Nat.div_div_eq_div_mul]
  rw [e1, e2]
  generalize V / (2 ^ w) ^ i = q
  -- q / 2^(w-s) % 2^w = q / 2^w % 2^w * 2^s % 2^w + q % 2^w / 2^(w-s)
  have hw : 2 ^ w = 2 ^ (w - s) * 2 ^ s := by rw [← Nat.pow_add]; congr 1; omega
  have h1 : q / 2 ^ (w - s) = 2 ^ s * (q / 2 ^ w) + q % 2 ^ w / 2 ^ (w - s) := by
    have hd := Nat.div_add_mod q (2 ^ w)
    conv => lhs; rw [← hd]
    rw [hw, Nat.mul_assoc, Nat.mul_add_div (Nat.two_pow_pos _)]
  have h2 : q % 2 ^ w / 2 ^ (w - s) < 2 ^ s := by
    apply Nat.div_lt_of_lt_mul
    rw [← hw]
    exact Nat.mod_lt _ (Nat.two_pow_pos w)
  rw [h1]
  generalize q % 2 ^ w / 2 ^ (w - s) = r at *
  generalize q / 2 ^ w = p
  have hws : 2 ^ w = 2 ^ s * 2 ^ (w - s) := by rw [Nat.mul_comm]; exact hw
  have h3 : p % 2 ^ w * 2 ^ s % 2 ^ w = 2 ^ s * (p % 2 ^ (w - s)) := by
    rw [Nat.mod_mul_mod, hws, Nat.mul_comm p, Nat.mul_mod_mul_left]
  rw [h3, hws, Nat.mod_mul, Nat.mul_add_mod, Nat.mod_eq_of_lt h2, Nat.mul_add_div (Nat.two_pow_pos s), Nat.div_eq_of_lt h2, Nat.add_zero, Nat.add_comm]
theorem shl_digit0 (w s V : Nat) : V * 2 ^ s / (2 ^ w) ^ 0 % 2 ^ w = V / (2 ^ w) ^ 0 % 2 ^ w * 2 ^ s % 2 ^ w := by
  rw [Nat.pow_zero, Nat.div_one, Nat.div_one, Nat.mod_mul_mod]
/-- The digit of V / 2^s at place i. -/
theorem shr_digit (w s V i : Nat) (hs : s ≤ w) : V / 2 ^ s / (2 ^ w) ^ i % 2 ^ w = V / (2 ^ w) ^ i % 2 ^ w / 2 ^ s + V / (2 ^ w) ^ (i + 1) % 2 ^ w * 2 ^ (w - s) % 2 ^ w := by
  have e2 : V / (2 ^ w) ^ (i + 1) = V / (2 ^ w) ^ i / 2 ^ w := by rw [Nat.pow_succ, Nat.div_div_eq_div_mul]
  rw [e2, Nat.div_div_eq_div_mul, Nat.mul_comm (2 ^ s), ← Nat.div_div_eq_div_mul]
  generalize V / (2 ^ w) ^ i = q
  have hw : 2 ^ w = 2 ^ s * 2 ^ (w - s) := by rw [← Nat.pow_add]; congr 1; omega
  have h1 : q / 2 ^ s = 2 ^ (w - s) * (q / 2 ^ w) + q % 2 ^ w / 2 ^ s := by
    have hd := Nat.div_add_mod q (2 ^ w)
    conv => lhs; rw [← hd]
    rw [hw, Nat.mul_assoc, Nat.mul_add_div (Nat.two_pow_pos _)]
  have h2 : q % 2 ^ w / 2 ^ s < 2 ^ (w - s) := by
    apply Nat.div_lt_of_lt_mul
    rw [← hw]
    exact Nat.mod_lt _ (Nat.two_pow_pos w)
  rw [h1]
  generalize q % 2 ^ w / 2 ^ s = r at *
  generalize q / 2 ^ w = p
  have hws : 2 ^ w = 2 ^ (w - s) * 2 ^ s := by rw [Nat.mul_comm]; exact hw
  have h3 : p % 2 ^ w * 2 ^ (w - s) % 2 ^ w = 2 ^ (w - s) * (p % 2 ^ s) := by
    rw [Nat.mod_mul_mod, hws, Nat.mul_comm p, Nat.mul_mod_mul_left]
  rw [h3, hws, Nat.mod_mul, Nat.mul_add_mod, Nat.mod_eq_of_lt h2, Nat.mul_add_div (Nat.two_pow_pos _), Nat.div_eq_of_lt h2, Nat.add_zero]
end Go.Proofs.Yteancdipmpmjpaa
