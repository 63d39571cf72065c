/-
  The plain law of the reference's Text: digits of ten of a number, times 256 and a next one.
-/
import Derived.Test.YtboigebdjnghiaaLk16
namespace Go.Proofs.Ytboigebdjnghiaa
set_option linter.unusedVariables false
/-- The lowest m decimal digits of X. -/
def dg (m X : Nat) : List Nat := (List.range m).map fun j => X / 10 ^ j % 10
theorem dg_len (m X : Nat) : (dg m X).length = m := by simp [dg]
theorem dg_succ (m X : Nat) : dg (m + 1) X = dg m X ++ [X / 10 ^ m % 10] := by simp [dg, List.range_succ]
theorem dg_lt (m X : Nat) : ∀ y ∈ dg m X, y < 10 := by
  intro y hy
  obtain ⟨j, _, rfl⟩ := List.mem_map.1 hy
  exact Nat.mod_lt _ (by omega)
theorem dg_val (X : Nat) : ∀ m, val 10 (dg m X) = X % 10 ^ m
  | 0 => by simp [dg, val, Nat.mod_one]
  | m + 1 => by
    rw [dg_succ, val_append, dg_val X m, dg_len, val, val, Nat.mul_zero, Nat.add_zero, Nat.pow_succ, Nat.mod_mul]
/-- The state between two digits of 256: so many digits as the number has, at least one. -/
structure Dc (m X : Nat) : Prop where
  pos : 1 ≤ m
  lt : X < 10 ^ m
  top : m = 1 ∨ 10 ^ (m - 1) ≤ X
theorem Dc.zero : Dc 1 0 := ⟨by omega, by omega, .inl rfl⟩
theorem dec_dg {m X : Nat} (h : Dc m X) : decS X = strOf ((dg m X).reverse.map (48 + ·)) := by
  by_cases h0 : X = 0
  · subst h0
    have hm : m = 1 := by
      rcases h.top with h1 | h1
      · exact h1
      · have : 0 < 10 ^ (m - 1) := Nat.pow_pos (by omega); omega
    subst hm
    rfl
  · have hv : val 10 (dg m X) = X := by rw [dg_val, Nat.mod_eq_of_lt h.lt]
    refine dec_of (dg m X) (dg_lt m X) ?_ ?_ hv
    · intro hne
      obtain ⟨k, rfl⟩ : ∃ k, m = k + 1 := ⟨m - 1, by have := h.pos; omega⟩
      have e := dg_succ k X
      have hg : (dg (k + 1) X).getLast hne = X / 10 ^ k % 10 := by
        simp only [e]
        simp
      rw [hg]
      have hlt := h.lt
      have hge : 10 ^ k ≤ X := by
        rcases h.top with h1 | h1
        · have : k = 0 := by omega
          subst this; rw [Nat.pow_zero]; omega
        · simpa using h1
      have h1 : 1 ≤ X / 10 ^ k := (Nat.le_div_iff_mul_le (Nat.pow_pos (by omega))).2 (by omega)
      have h2 : X / 10 ^ k < 10 := Nat.div_lt_of_lt_mul (by rw [← Nat.pow_succ]; exact hlt)
      rw [Nat.mod_eq_of_lt h2]
      omega
    · intro e
      rw [e] at hv
      exact h0 (by rw [← hv]; rfl)
/-- What is carried behind the lowest k digits. -/
def cy (X a k : Nat) : Nat := (256 * (X % 10 ^ k) + a) / 10 ^ k
theorem cy_zero (X a : Nat) : cy X a 0 = a := by simp [cy, Nat.mod_one]
theorem cy_mid (X a k : Nat) : cy X a k + 256 * (X / 10 ^ k % 10) = (256 * (X % 10 ^ (k + 1)) + a) / 10 ^ k := by
  have hp : 0 < 10 ^ k := Nat.pow_pos (by omega)
  have e : 256 * (X % 10 ^ (k + 1)) + a = (256 * (X % 10 ^ k) + a) + 10 ^ k * (256 * (X / 10 ^ k % 10)) := by
    rw [Nat.pow_succ, Nat.mod_mul, Nat.mul_add, ← Nat.mul_assoc, ← Nat.mul_assoc, Nat.mul_comm (10 ^ k) 256]
    omega
  rw [e, Nat.add_mul_div_left _ _ hp, cy]
theorem cy_succ (X a k : Nat) : (cy X a k + 256 * (X / 10 ^ k % 10)) / 10 = cy X a (k + 1) := by
  rw [cy_mid, Nat.div_div_eq_div_mul, ← Nat.pow_succ, cy]
theorem cy_dig (X a k : Nat) : (cy X a k + 256 * (X / 10 ^ k % 10)) % 10 = (256 * X + a) / 10 ^ k % 10 := by
  have hp : 0 < 10 ^ k := Nat.pow_pos (by omega)
  rw [cy_mid]
  have e : 256 * X + a = (256 * (X % 10 ^ (k + 1)) + a) + 10 ^ k * (10 * (256 * (X / 10 ^ (k + 1)))) := by
    have h := Nat.div_add_mod X (10 ^ (k + 1))
    have : 256 * X = 256 * (10 ^ (k + 1) * (X / 10 ^ (k + 1)) + X % 10 ^ (k + 1)) := by rw [h]
    rw [this, Nat.pow_succ, Nat.mul_add]
    have e2 : 256 * (10 ^ k * 10 * (X / (10 ^ k * 10))) = 10 ^ k * (10 * (256 * (X / (10 ^ k * 10)))) := by
      rw [← Nat.mul_assoc 256, Nat.mul_comm 256, Nat.mul_assoc (10 ^ k * 10), Nat.mul_assoc (10 ^ k)]
    rw [e2]
    omega
  rw [e, Nat.add_mul_div_left _ _ hp, Nat.add_mul_mod_self_left]
/-- Behind the last digit: what is left of the whole. -/
theorem cy_end {X a m : Nat} (h : X < 10 ^ m) : cy X a m = (256 * X + a) / 10 ^ m := by rw [cy, Nat.mod_eq_of_lt h]
theorem cy_lt {X a k : Nat} (ha : a < 256) : cy X a k < 256 := by
  have hp : 0 < 10 ^ k := Nat.pow_pos (by omega)
  have h := Nat.mod_lt X hp
  unfold cy
  refine Nat.div_lt_of_lt_mul ?_
  omega
/-- The row between: the lowest k digits are those of the new number. -/
def mx (m k X a : Nat) : List Nat := dg k (256 * X + a) ++ (dg m X).drop k
theorem mx_zero (m X a : Nat) : mx m 0 X a = dg m X := by simp [mx, dg]
theorem mx_end (m X a : Nat) : mx m m X a = dg m (256 * X + a) := by simp [mx, dg_len]
theorem mx_len {m k X a : Nat} (h : k ≤ m) : (mx m k X a).length = m := by simp [mx, dg_len]; omega
theorem mx_get {m k X a : Nat} (h : k < m) : (mx m k X a).getD k 0 = X / 10 ^ k % 10 := by
  rw [List.getD, mx, List.getElem?_append_right (by rw [dg_len]; exact Nat.le_refl _), dg_len, List.getElem?_drop, dg, List.getElem?_map, List.getElem?_range (by omega)]
  simp
theorem mx_succ {m k X a : Nat} (h : k < m) : mx m (k + 1) X a = (mx m k X a).set k ((256 * X + a) / 10 ^ k % 10) := by
  rw [mx, mx, dg_succ, List.set_append_right _ _ (by rw [dg_len]; exact Nat.le_refl _), dg_len, Nat.sub_self, List.append_assoc]
  congr 1
  have e := List.drop_eq_getElem_cons (l := dg m X) (i := k) (by rw [dg_len]; exact h)
  rw [e]
  rfl
/-- The end of the appends. -/
theorem Dc.next {m X a M : Nat} (h : Dc m X) (hM : m ≤ M) (h0 : (256 * X + a) / 10 ^ M = 0) (h1 : M = m ∨ 10 ^ (M - 1) ≤ 256 * X + a) : Dc M (256 * X + a) := by
  have hp : 0 < 10 ^ M := Nat.pow_pos (by omega)
  refine ⟨Nat.le_trans h.pos hM, ?_, ?_⟩
  · rcases Nat.div_eq_zero_iff.1 h0 with h2 | h2
    · omega
    · exact h2
  · rcases h1 with rfl | h1
    · rcases h.top with h2 | h2
      · exact .inl h2
      · exact .inr (by omega)
    · exact .inr h1
end Go.Proofs.Ytboigebdjnghiaa
