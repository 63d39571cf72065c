/-
  Lemmas and walks of this claim (the texts Dig Psh of the work; what no proof here uses is left out). No claim of their own.
-/
import Init
set_option linter.all false
set_option linter.unusedSimpArgs false
set_option linter.unusedVariables false
namespace Go.Proofs.Yteancdipmpmjpaa
set_option linter.unusedVariables false

/-- What digits to the base b are worth. -/
def val (b : Nat) : List Nat → Nat
  | [] => 0
  | x :: r => x + b * val b r
/-- The digits of n to the base b, without noughts at the end. -/
def digs (b n : Nat) : List Nat := if h : b < 2 ∨ n = 0 then [] else n % b :: digs b (n / b)
termination_by n
decreasing_by exact Nat.div_lt_self (by omega) (by omega)

theorem digs_zero (b : Nat) : digs b 0 = [] := by unfold digs; simp
theorem digs_pos {b n : Nat} (hb : 2 ≤ b) (hn : n ≠ 0) : digs b n = n % b :: digs b (n / b) := by
  conv => lhs; unfold digs
  rw [dif_neg (by omega)]
theorem digs_cons {b x n : Nat} (hb : 2 ≤ b) (hx : x < b) (h : x + b * n ≠ 0) : digs b (x + b * n) = x :: digs b n := by
  rw [digs_pos hb h, Nat.add_mul_mod_self_left, Nat.mod_eq_of_lt hx, Nat.add_mul_div_left _ _ (by omega), Nat.div_eq_of_lt hx, Nat.zero_add]
theorem digs_ne {b n : Nat} (hb : 2 ≤ b) : digs b n = [] ↔ n = 0 := by
  constructor
  · intro h
    by_cases hn : n = 0
    · exact hn
    · rw [digs_pos hb hn] at h; cases h
  · rintro rfl; exact digs_zero b
theorem val_digs {b : Nat} (hb : 2 ≤ b) (n : Nat) : val b (digs b n) = n := by
  induction n using Nat.strongRecOn with
  | _ n ih =>
    by_cases hn : n = 0
    · subst hn; rw [digs_zero]; rfl
    · rw [digs_pos hb hn, val, ih _ (Nat.div_lt_self (by omega) (by omega)), Nat.mod_add_div]
theorem digs_lt {b : Nat} (hb : 2 ≤ b) (n : Nat) : ∀ x ∈ digs b n, x < b := by
  induction n using Nat.strongRecOn with
  | _ n ih =>
    by_cases hn : n = 0
    · subst hn; rw [digs_zero]; simp
    · rw [digs_pos hb hn]
      intro x hx
      rcases List.mem_cons.1 hx with rfl | hx
      · exact Nat.mod_lt _ (by omega)
      · exact ih _ (Nat.div_lt_self (by omega) (by omega)) x hx

theorem val_append (b : Nat) : ∀ l m : List Nat, val b (l ++ m) = val b l + b ^ l.length * val b m
  | [], m => by simp [val]
  | x :: r, m => by
    rw [List.cons_append, val, val_append b r m, val, List.length_cons, Nat.pow_succ, Nat.mul_add, ← Nat.mul_assoc, Nat.mul_comm b (b ^ r.length), Nat.add_assoc]
theorem val_lt {b : Nat} : ∀ l : List Nat, (∀ x ∈ l, x < b) → val b l < b ^ l.length
  | [], _ => by simp [val]
  | x :: r, h => by
    have h1 := val_lt r fun y hy => h y (List.mem_cons_of_mem _ hy)
    have h2 := h x (List.mem_cons_self)
    rw [val, List.length_cons, Nat.pow_succ, Nat.mul_comm (b ^ _)]
    have h3 : b * (val b r + 1) ≤ b * b ^ r.length := Nat.mul_le_mul_left b h1
    rw [Nat.mul_add] at h3
    omega
theorem val_take_drop (b : Nat) (l : List Nat) (i : Nat) (h : i ≤ l.length) : val b l = val b (l.take i) + b ^ i * val b (l.drop i) := by
  have := val_append b (l.take i) (l.drop i)
  rw [List.take_append_drop, List.length_take, Nat.min_eq_left h] at this
  exact this
theorem val_zeros (b : Nat) : ∀ l : List Nat, (∀ x ∈ l, x = 0) → val b l = 0
  | [], _ => rfl
  | x :: r, h => by rw [val, val_zeros b r fun y hy => h y (List.mem_cons_of_mem _ hy), h x List.mem_cons_self]; simp
theorem val_replicate (b n : Nat) : val b (List.replicate n 0) = 0 := val_zeros b _ fun x hx => (List.mem_replicate.1 hx).2
/-- Digits whose last one is not 0 are the digits of what they are worth. -/
theorem digs_val {b : Nat} (hb : 2 ≤ b) : ∀ l : List Nat, (∀ x ∈ l, x < b) → (∀ h : l ≠ [], l.getLast h ≠ 0) → digs b (val b l) = l
  | [], _, _ => digs_zero b
  | x :: r, h, hl => by
    have hr : ∀ y ∈ r, y < b := fun y hy => h y (List.mem_cons_of_mem _ hy)
    have hx := h x List.mem_cons_self
    rcases r with _ | ⟨y, s⟩
    · have := hl (by simp)
      simp only [List.getLast_singleton] at this
      rw [val, digs_cons hb hx (by omega)]
      show x :: digs b 0 = [x]
      rw [digs_zero]
    · have ih := digs_val hb (y :: s) hr fun hne => by have := hl (by simp); rwa [List.getLast_cons hne] at this
      have hn : val b (y :: s) ≠ 0 := by
        intro e
        rw [e, digs_zero] at ih
        cases ih
      rw [val, digs_cons hb hx (by have : 0 < b * val b (y :: s) := Nat.mul_pos (by omega) (by omega); omega), ih]
/-- The digit at place i. -/
theorem val_get {b : Nat} (hb : 0 < b) : ∀ (l : List Nat), (∀ x ∈ l, x < b) → ∀ i, l.getD i 0 = val b l / b ^ i % b
  | [], _, i => by simp [val]
  | x :: r, h, 0 => by simp [val, Nat.add_mul_mod_self_left, Nat.mod_eq_of_lt (h x List.mem_cons_self)]
  | x :: r, h, i + 1 => by
    have := val_get hb r (fun y hy => h y (List.mem_cons_of_mem _ hy)) i
    rw [List.getD_cons_succ, this, val, Nat.pow_succ, Nat.mul_comm (b ^ i), ← Nat.div_div_eq_div_mul, Nat.add_mul_div_left _ _ hb, Nat.div_eq_of_lt (h x List.mem_cons_self), Nat.zero_add]
theorem digs_get {b : Nat} (hb : 2 ≤ b) (n i : Nat) : (digs b n).getD i 0 = n / b ^ i % b := by
  rw [val_get (by omega) _ (digs_lt hb n), val_digs hb]
theorem digs_len {b : Nat} (hb : 2 ≤ b) (n k : Nat) : (digs b n).length ≤ k ↔ n < b ^ k := by
  constructor
  · intro h
    have h1 := val_lt _ (digs_lt hb n)
    rw [val_digs hb] at h1
    exact Nat.lt_of_lt_of_le h1 (Nat.pow_le_pow_right (by omega) h)
  · intro h
    induction k generalizing n with
    | zero => rw [Nat.pow_zero] at h; have : n = 0 := by omega
              subst this; rw [digs_zero]; simp
    | succ k ih =>
      by_cases hn : n = 0
      · subst hn; rw [digs_zero]; simp
      · rw [digs_pos hb hn, List.length_cons]
        have := ih (n / b) (by rw [Nat.pow_succ] at h; exact Nat.div_lt_of_lt_mul (by rwa [Nat.mul_comm]))
        omega
theorem digs_le {b : Nat} (hb : 2 ≤ b) (n : Nat) : n < b ^ (digs b n).length := (digs_len hb n _).1 (Nat.le_refl _)
/-- A digit set anew. -/
theorem val_set (b : Nat) : ∀ (l : List Nat) (i x : Nat), i < l.length → val b (l.set i x) + b ^ i * l.getD i 0 = val b l + b ^ i * x
  | [], _, _, h => absurd h (by simp)
  | y :: r, 0, x, _ => by simp [val]; omega
  | y :: r, i + 1, x, h => by
    have := val_set b r i x (by simpa using h)
    rw [List.set_cons_succ, List.getD_cons_succ, val, val, Nat.pow_succ, Nat.mul_comm (b ^ i), Nat.mul_assoc, Nat.mul_assoc, Nat.add_assoc, ← Nat.mul_add, this, Nat.mul_add, Nat.add_assoc]
theorem mod_pow_step (b n k : Nat) : n % b ^ (k + 1) = n % b ^ k + b ^ k * (n / b ^ k % b) := by rw [Nat.pow_succ, Nat.mod_mul]
end Go.Proofs.Yteancdipmpmjpaa
namespace Go.Proofs.Yteancdipmpmjpaa
set_option linter.unusedVariables false

/-- Digits that are those of T, place by place, are worth T. -/
theorem val_places {b : Nat} (hb : 2 ≤ b) (o : List Nat) (T : Nat) (h : ∀ i, i < o.length → o.getD i 0 = T / b ^ i % b) (hT : T < b ^ o.length) : val b o = T := by
  have hlt : ∀ x ∈ o, x < b := by
    intro x hx
    obtain ⟨i, hi, rfl⟩ := List.mem_iff_getElem.1 hx
    have := h i hi
    rw [List.getD, List.getElem?_eq_getElem hi] at this
    simp only [Option.getD_some] at this
    rw [this]
    exact Nat.mod_lt _ (by omega)
  suffices hs : ∀ k, k ≤ o.length → val b (o.take k) = T % b ^ k by
    have := hs o.length (Nat.le_refl _)
    rw [List.take_length, Nat.mod_eq_of_lt hT] at this
    exact this
  intro k
  induction k with
  | zero => intro _; simp [val, Nat.mod_one]
  | succ k ih =>
    intro hk
    rw [List.take_succ_eq_append_getElem (by omega), val_append, ih (by omega), List.length_take, Nat.min_eq_left (by omega), mod_pow_step]
    congr 2
    have := h k (by omega)
    rw [List.getD, List.getElem?_eq_getElem (by omega)] at this
    simpa [val] using this

/-- The digit of V * 2^s at place i + 1, b = 2^w. -/
theorem shl_digit (w s V i : Nat) (hs : s ≤ w) : V * 2 ^ s / (2 ^ w) ^ (i + 1) % 2 ^ w = V / (2 ^ w) ^ (i + 1) % 2 ^ w * 2 ^ s % 2 ^ w + V / (2 ^ w) ^ i % 2 ^ w / 2 ^ (w - s) := by
  have hB : 0 < (2 ^ w) ^ i := Nat.pow_pos (Nat.two_pow_pos w)
  have e1 : V * 2 ^ s / (2 ^ w) ^ (i + 1) = V / (2 ^ w) ^ i / 2 ^ (w - s) := by
    have : (2 ^ w) ^ (i + 1) = 2 ^ s * ((2 ^ w) ^ i * 2 ^ (w - s)) := by
      rw [Nat.pow_succ, Nat.mul_left_comm, ← Nat.pow_add, Nat.add_sub_cancel' hs]
    rw [this, Nat.mul_comm V, Nat.mul_div_mul_left _ _ (Nat.two_pow_pos s), Nat.div_div_eq_div_mul]
  have e2 : V / (2 ^ w) ^ (i + 1) = V / (2 ^ w) ^ i / 2 ^ w := by rw [Nat.pow_succ, Nat.div_div_eq_div_mul]
  rw [e1, e2]
  generalize V / (2 ^ w) ^ i = q
  -- q / 2^(w-s) % 2^w = q / 2^w % 2^w * 2^s % 2^w + q % 2^w / 2^(w-s)
  have hw : 2 ^ w = 2 ^ (w - s) * 2 ^ s := by rw [← Nat.pow_add]; congr 1; omega
  have h1 : q / 2 ^ (w - s) = 2 ^ s * (q / 2 ^ w) + q % 2 ^ w / 2 ^ (w - s) := by
    have hd := Nat.div_add_mod q (2 ^ w)
    conv => lhs; rw [← hd]
    rw [hw, Nat.mul_assoc, Nat.mul_add_div (Nat.two_pow_pos _)]
  have h2 : q % 2 ^ w / 2 ^ (w - s) < 2 ^ s := by
    apply Nat.div_lt_of_lt_mul
    rw [← hw]
    exact Nat.mod_lt _ (Nat.two_pow_pos w)
  rw [h1]
  generalize q % 2 ^ w / 2 ^ (w - s) = r at *
  generalize q / 2 ^ w = p
  have hws : 2 ^ w = 2 ^ s * 2 ^ (w - s) := by rw [Nat.mul_comm]; exact hw
  have h3 : p % 2 ^ w * 2 ^ s % 2 ^ w = 2 ^ s * (p % 2 ^ (w - s)) := by
    rw [Nat.mod_mul_mod, hws, Nat.mul_comm p, Nat.mul_mod_mul_left]
  rw [h3, hws, Nat.mod_mul, Nat.mul_add_mod, Nat.mod_eq_of_lt h2, Nat.mul_add_div (Nat.two_pow_pos s), Nat.div_eq_of_lt h2, Nat.add_zero, Nat.add_comm]
theorem shl_digit0 (w s V : Nat) : V * 2 ^ s / (2 ^ w) ^ 0 % 2 ^ w = V / (2 ^ w) ^ 0 % 2 ^ w * 2 ^ s % 2 ^ w := by
  rw [Nat.pow_zero, Nat.div_one, Nat.div_one, Nat.mod_mul_mod]
/-- The digit of V / 2^s at place i. -/
theorem shr_digit (w s V i : Nat) (hs : s ≤ w) : V / 2 ^ s / (2 ^ w) ^ i % 2 ^ w = V / (2 ^ w) ^ i % 2 ^ w / 2 ^ s + V / (2 ^ w) ^ (i + 1) % 2 ^ w * 2 ^ (w - s) % 2 ^ w := by
  have e2 : V / (2 ^ w) ^ (i + 1) = V / (2 ^ w) ^ i / 2 ^ w := by rw [Nat.pow_succ, Nat.div_div_eq_div_mul]
  rw [e2, Nat.div_div_eq_div_mul, Nat.mul_comm (2 ^ s), ← Nat.div_div_eq_div_mul]
  generalize V / (2 ^ w) ^ i = q
  have hw : 2 ^ w = 2 ^ s * 2 ^ (w - s) := by rw [← Nat.pow_add]; congr 1; omega
  have h1 : q / 2 ^ s = 2 ^ (w - s) * (q / 2 ^ w) + q % 2 ^ w / 2 ^ s := by
    have hd := Nat.div_add_mod q (2 ^ w)
    conv => lhs; rw [← hd]
    rw [hw, Nat.mul_assoc, Nat.mul_add_div (Nat.two_pow_pos _)]
  have h2 : q % 2 ^ w / 2 ^ s < 2 ^ (w - s) := by
    apply Nat.div_lt_of_lt_mul
    rw [← hw]
    exact Nat.mod_lt _ (Nat.two_pow_pos w)
  rw [h1]
  generalize q % 2 ^ w / 2 ^ s = r at *
  generalize q / 2 ^ w = p
  have hws : 2 ^ w = 2 ^ (w - s) * 2 ^ s := by rw [Nat.mul_comm]; exact hw
  have h3 : p % 2 ^ w * 2 ^ (w - s) % 2 ^ w = 2 ^ (w - s) * (p % 2 ^ s) := by
    rw [Nat.mod_mul_mod, hws, Nat.mul_comm p, Nat.mul_mod_mul_left]
  rw [h3, hws, Nat.mod_mul, Nat.mul_add_mod, Nat.mod_eq_of_lt h2, Nat.mul_add_div (Nat.two_pow_pos _), Nat.div_eq_of_lt h2, Nat.add_zero]
end Go.Proofs.Yteancdipmpmjpaa
