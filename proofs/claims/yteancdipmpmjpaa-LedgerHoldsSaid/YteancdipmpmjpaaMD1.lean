/-
  Lemmas and walks of this claim (the texts Dig Psh Dp03 Dq03 Rq Pa18 of the work; what no proof here uses is left out). No claim of their own.
-/
import Init
set_option linter.all false
set_option linter.unusedSimpArgs false
set_option linter.unusedVariables false
namespace Go.Proofs.Yteancdipmpmjpaa
set_option linter.unusedVariables false

def val (b : Nat) : List Nat → Nat
  | [] => 0
  | x :: r => x + b * val b r
def digs (b n : Nat) : List Nat := if h : b < 2 ∨ n = 0 then [] else n % b :: digs b (n / b)
termination_by n
decreasing_by exact Nat.div_lt_self (by omega) (by omega)

theorem digs_zero (b : Nat) : digs b 0 = [] := by unfold digs; simp
theorem digs_pos {b n : Nat} (hb : 2 ≤ b) (hn : n ≠ 0) : digs b n = n % b :: digs b (n / b) := by
  conv => lhs; unfold digs
  rw [dif_neg (by omega)]
theorem digs_cons {b x n : Nat} (hb : 2 ≤ b) (hx : x < b) (h : x + b * n ≠ 0) : digs b (x + b * n) = x :: digs b n := by
  rw [digs_pos hb h, Nat.add_mul_mod_self_left, Nat.mod_eq_of_lt hx, Nat.add_mul_div_left _ _ (by omega), Nat.div_eq_of_lt hx, Nat.zero_add]
theorem digs_ne {b n : Nat} (hb : 2 ≤ b) : digs b n = [] ↔ n = 0 := by
  constructor
  · intro h
    by_cases hn : n = 0
    · exact hn
    · rw [digs_pos hb hn] at h; cases h
  · rintro rfl; exact digs_zero b
theorem val_digs {b : Nat} (hb : 2 ≤ b) (n : Nat) : val b (digs b n) = n := by
  induction n using Nat.strongRecOn with
  | _ n ih =>
    by_cases hn : n = 0
    · subst hn; rw [digs_zero]; rfl
    · rw [digs_pos hb hn, val, ih _ (Nat.div_lt_self (by omega) (by omega)), Nat.mod_add_div]
theorem digs_lt {b : Nat} (hb : 2 ≤ b) (n : Nat) : ∀ x ∈ digs b n, x < b := by
  induction n using Nat.strongRecOn with
  | _ n ih =>
    by_cases hn : n = 0
    · subst hn; rw [digs_zero]; simp
    · rw [digs_pos hb hn]
      intro x hx
      rcases List.mem_cons.1 hx with rfl | hx
      · exact Nat.mod_lt _ (by omega)
      · exact ih _ (Nat.div_lt_self (by omega) (by omega)) x hx

theorem val_append (b : Nat) : ∀ l m : List Nat, val b (l ++ m) = val b l + b ^ l.length * val b m
  | [], m => by simp [val]
  | x :: r, m => by
    rw [List.cons_append, val, val_append b r m, val, List.length_cons, Nat.pow_succ, Nat.mul_add, ← Nat.mul_assoc, Nat.mul_comm b (b ^ r.length), Nat.add_assoc]
theorem val_lt {b : Nat} : ∀ l : List Nat, (∀ x ∈ l, x < b) → val b l < b ^ l.length
  | [], _ => by simp [val]
  | x :: r, h => by
    have h1 := val_lt r fun y hy => h y (List.mem_cons_of_mem _ hy)
    have h2 := h x (List.mem_cons_self)
    rw [val, List.length_cons, Nat.pow_succ, Nat.mul_comm (b ^ _)]
    have h3 : b * (val b r + 1) ≤ b * b ^ r.length := Nat.mul_le_mul_left b h1
    rw [Nat.mul_add] at h3
    omega
theorem val_zeros (b : Nat) : ∀ l : List Nat, (∀ x ∈ l, x = 0) → val b l = 0
  | [], _ => rfl
  | x :: r, h => by rw [val, val_zeros b r fun y hy => h y (List.mem_cons_of_mem _ hy), h x List.mem_cons_self]; simp
theorem val_replicate (b n : Nat) : val b (List.replicate n 0) = 0 := val_zeros b _ fun x hx => (List.mem_replicate.1 hx).2
theorem digs_val {b : Nat} (hb : 2 ≤ b) : ∀ l : List Nat, (∀ x ∈ l, x < b) → (∀ h : l ≠ [], l.getLast h ≠ 0) → digs b (val b l) = l
  | [], _, _ => digs_zero b
  | x :: r, h, hl => by
    have hr : ∀ y ∈ r, y < b := fun y hy => h y (List.mem_cons_of_mem _ hy)
    have hx := h x List.mem_cons_self
    rcases r with _ | ⟨y, s⟩
    · have := hl (by simp)
      simp only [List.getLast_singleton] at this
      rw [val, digs_cons hb hx (by omega)]
      show x :: digs b 0 = [x]
      rw [digs_zero]
    · have ih := digs_val hb (y :: s) hr fun hne => by have := hl (by simp); rwa [List.getLast_cons hne] at this
      have hn : val b (y :: s) ≠ 0 := by
        intro e
        rw [e, digs_zero] at ih
        cases ih
      rw [val, digs_cons hb hx (by have : 0 < b * val b (y :: s) := Nat.mul_pos (by omega) (by omega); omega), ih]
theorem val_get {b : Nat} (hb : 0 < b) : ∀ (l : List Nat), (∀ x ∈ l, x < b) → ∀ i, l.getD i 0 = val b l / b ^ i % b
  | [], _, i => by simp [val]
  | x :: r, h, 0 => by simp [val, Nat.add_mul_mod_self_left, Nat.mod_eq_of_lt (h x List.mem_cons_self)]
  | x :: r, h, i + 1 => by
    have := val_get hb r (fun y hy => h y (List.mem_cons_of_mem _ hy)) i
    rw [List.getD_cons_succ, this, val, Nat.pow_succ, Nat.mul_comm (b ^ i), ← Nat.div_div_eq_div_mul, Nat.add_mul_div_left _ _ hb, Nat.div_eq_of_lt (h x List.mem_cons_self), Nat.zero_add]
theorem digs_get {b : Nat} (hb : 2 ≤ b) (n i : Nat) : (digs b n).getD i 0 = n / b ^ i % b := by
  rw [val_get (by omega) _ (digs_lt hb n), val_digs hb]
theorem digs_len {b : Nat} (hb : 2 ≤ b) (n k : Nat) : (digs b n).length ≤ k ↔ n < b ^ k := by
  constructor
  · intro h
    have h1 := val_lt _ (digs_lt hb n)
    rw [val_digs hb] at h1
    exact Nat.lt_of_lt_of_le h1 (Nat.pow_le_pow_right (by omega) h)
  · intro h
    induction k generalizing n with
    | zero => rw [Nat.pow_zero] at h; have : n = 0 := by omega
              subst this; rw [digs_zero]; simp
    | succ k ih =>
      by_cases hn : n = 0
      · subst hn; rw [digs_zero]; simp
      · rw [digs_pos hb hn, List.length_cons]
        have := ih (n / b) (by rw [Nat.pow_succ] at h; exact Nat.div_lt_of_lt_mul (by rwa [Nat.mul_comm]))
        omega
theorem digs_le {b : Nat} (hb : 2 ≤ b) (n : Nat) : n < b ^ (digs b n).length := (digs_len hb n _).1 (Nat.le_refl _)
theorem val_set (b : Nat) : ∀ (l : List Nat) (i x : Nat), i < l.length → val b (l.set i x) + b ^ i * l.getD i 0 = val b l + b ^ i * x
  | [], _, _, h => absurd h (by simp)
  | y :: r, 0, x, _ => by simp [val]; omega
  | y :: r, i + 1, x, h => by
    have := val_set b r i x (by simpa using h)
    rw [List.set_cons_succ, List.getD_cons_succ, val, val, Nat.pow_succ, Nat.mul_comm (b ^ i), Nat.mul_assoc, Nat.mul_assoc, Nat.add_assoc, ← Nat.mul_add, this, Nat.mul_add, Nat.add_assoc]
theorem mod_pow_step (b n k : Nat) : n % b ^ (k + 1) = n % b ^ k + b ^ k * (n / b ^ k % b) := by rw [Nat.pow_succ, Nat.mod_mul]
end Go.Proofs.Yteancdipmpmjpaa
namespace Go.Proofs.Yteancdipmpmjpaa
set_option linter.unusedVariables false

theorem val_places {b : Nat} (hb : 2 ≤ b) (o : List Nat) (T : Nat) (h : ∀ i, i < o.length → o.getD i 0 = T / b ^ i % b) (hT : T < b ^ o.length) : val b o = T := by
  have hlt : ∀ x ∈ o, x < b := by
    intro x hx
    obtain ⟨i, hi, rfl⟩ := List.mem_iff_getElem.1 hx
    have := h i hi
    rw [List.getD, List.getElem?_eq_getElem hi] at this
    simp only [Option.getD_some] at this
    rw [this]
    exact Nat.mod_lt _ (by omega)
  suffices hs : ∀ k, k ≤ o.length → val b (o.take k) = T % b ^ k by
    have := hs o.length (Nat.le_refl _)
    rw [List.take_length, Nat.mod_eq_of_lt hT] at this
    exact this
  intro k
  induction k with
  | zero => intro _; simp [val, Nat.mod_one]
  | succ k ih =>
    intro hk
    rw [List.take_succ_eq_append_getElem (by omega), val_append, ih (by omega), List.length_take, Nat.min_eq_left (by omega), mod_pow_step]
    congr 2
    have := h k (by omega)
    rw [List.getD, List.getElem?_eq_getElem (by omega)] at this
    simpa [val] using this

theorem shl_digit (w s V i : Nat) (hs : s ≤ w) : V * 2 ^ s / (2 ^ w) ^ (i + 1) % 2 ^ w = V / (2 ^ w) ^ (i + 1) % 2 ^ w * 2 ^ s % 2 ^ w + V / (2 ^ w) ^ i % 2 ^ w / 2 ^ (w - s) := by
  have hB : 0 < (2 ^ w) ^ i := Nat.pow_pos (Nat.two_pow_pos w)
  have e1 : V * 2 ^ s / (2 ^ w) ^ (i + 1) = V / (2 ^ w) ^ i / 2 ^ (w - s) := by
    have : (2 ^ w) ^ (i + 1) = 2 ^ s * ((2 ^ w) ^ i * 2 ^ (w - s)) := by
      rw [Nat.pow_succ, Nat.mul_left_comm, ← Nat.pow_add, Nat.add_sub_cancel' hs]
    rw [this, Nat.mul_comm V, Nat.mul_div_mul_left _ _ (Nat.two_pow_pos s), Nat.div_div_eq_div_mul]
  have e2 : V / (2 ^ w) ^ (i + 1) = V / (2 ^ w) ^ i / 2 ^ w := by rw [Nat.pow_succ, Nat.div_div_eq_div_mul]
  rw [e1, e2]
  generalize V / (2 ^ w) ^ i = q
  -- q / 2^(w-s) % 2^w = q / 2^w % 2^w * 2^s % 2^w + q % 2^w / 2^(w-s)
  have hw : 2 ^ w = 2 ^ (w - s) * 2 ^ s := by rw [← Nat.pow_add]; congr 1; omega
  have h1 : q / 2 ^ (w - s) = 2 ^ s * (q / 2 ^ w) + q % 2 ^ w / 2 ^ (w - s) := by
    have hd := Nat.div_add_mod q (2 ^ w)
    conv => lhs; rw [← hd]
    rw [hw, Nat.mul_assoc, Nat.mul_add_div (Nat.two_pow_pos _)]
  have h2 : q % 2 ^ w / 2 ^ (w - s) < 2 ^ s := by
    apply Nat.div_lt_of_lt_mul
    rw [← hw]
    exact Nat.mod_lt _ (Nat.two_pow_pos w)
  rw [h1]
  generalize q % 2 ^ w / 2 ^ (w - s) = r at *
  generalize q / 2 ^ w = p
  have hws : 2 ^ w = 2 ^ s * 2 ^ (w - s) := by rw [Nat.mul_comm]; exact hw
  have h3 : p % 2 ^ w * 2 ^ s % 2 ^ w = 2 ^ s * (p % 2 ^ (w - s)) := by
    rw [Nat.mod_mul_mod, hws, Nat.mul_comm p, Nat.mul_mod_mul_left]
  rw [h3, hws, Nat.mod_mul, Nat.mul_add_mod, Nat.mod_eq_of_lt h2, Nat.mul_add_div (Nat.two_pow_pos s), Nat.div_eq_of_lt h2, Nat.add_zero, Nat.add_comm]
theorem shl_digit0 (w s V : Nat) : V * 2 ^ s / (2 ^ w) ^ 0 % 2 ^ w = V / (2 ^ w) ^ 0 % 2 ^ w * 2 ^ s % 2 ^ w := by
  rw [Nat.pow_zero, Nat.div_one, Nat.div_one, Nat.mod_mul_mod]
theorem shr_digit (w s V i : Nat) (hs : s ≤ w) : V / 2 ^ s / (2 ^ w) ^ i % 2 ^ w = V / (2 ^ w) ^ i % 2 ^ w / 2 ^ s + V / (2 ^ w) ^ (i + 1) % 2 ^ w * 2 ^ (w - s) % 2 ^ w := by
  have e2 : V / (2 ^ w) ^ (i + 1) = V / (2 ^ w) ^ i / 2 ^ w := by rw [Nat.pow_succ, Nat.div_div_eq_div_mul]
  rw [e2, Nat.div_div_eq_div_mul, Nat.mul_comm (2 ^ s), ← Nat.div_div_eq_div_mul]
  generalize V / (2 ^ w) ^ i = q
  have hw : 2 ^ w = 2 ^ s * 2 ^ (w - s) := by rw [← Nat.pow_add]; congr 1; omega
  have h1 : q / 2 ^ s = 2 ^ (w - s) * (q / 2 ^ w) + q % 2 ^ w / 2 ^ s := by
    have hd := Nat.div_add_mod q (2 ^ w)
    conv => lhs; rw [← hd]
    rw [hw, Nat.mul_assoc, Nat.mul_add_div (Nat.two_pow_pos _)]
  have h2 : q % 2 ^ w / 2 ^ s < 2 ^ (w - s) := by
    apply Nat.div_lt_of_lt_mul
    rw [← hw]
    exact Nat.mod_lt _ (Nat.two_pow_pos w)
  rw [h1]
  generalize q % 2 ^ w / 2 ^ s = r at *
  generalize q / 2 ^ w = p
  have hws : 2 ^ w = 2 ^ (w - s) * 2 ^ s := by rw [Nat.mul_comm]; exact hw
  have h3 : p % 2 ^ w * 2 ^ (w - s) % 2 ^ w = 2 ^ (w - s) * (p % 2 ^ s) := by
    rw [Nat.mod_mul_mod, hws, Nat.mul_comm p, Nat.mul_mod_mul_left]
  rw [h3, hws, Nat.mod_mul, Nat.mul_add_mod, Nat.mod_eq_of_lt h2, Nat.mul_add_div (Nat.two_pow_pos _), Nat.div_eq_of_lt h2, Nat.add_zero]
end Go.Proofs.Yteancdipmpmjpaa
namespace Go.Proofs.Yteancdipmpmjpaa
set_option linter.unusedVariables false

structure Gs (y1 y0 u u1 q r : Nat) : Prop where
  split : u = q * y1 + r
  lo : (u * 4294967296 + u1) / (y1 * 4294967296 + y0) ≤ q
  hi : q ≤ 4294967297
  rest : r < 4294967296

theorem Gs.less {y1 y0 u u1 q r : Nat} (h : Gs y1 y0 u u1 q r) (hy : 0 < y1) (hu : u < y1 * 4294967296 + y0) (h1 : u1 < 4294967296) (hg : 4294967296 ≤ q ∨ 4294967296 * r + u1 < q * y0) :
    (u * 4294967296 + u1) / (y1 * 4294967296 + y0) < q := by
  have hp : 0 < y1 * 4294967296 + y0 := by omega
  rcases hg with hg | hg
  · refine Nat.lt_of_lt_of_le ?_ hg
    rw [Nat.div_lt_iff_lt_mul hp]
    clear h hg hp hy
    omega
  · rw [Nat.div_lt_iff_lt_mul hp, h.split, Nat.mul_add, ← Nat.mul_assoc]
    generalize q * y1 = a at *
    generalize q * y0 = b at *
    omega
theorem Gs.fit {y1 y0 u u1 q r : Nat} (h : Gs y1 y0 u u1 q r) (hy : 0 < y1) (hg : q * y0 ≤ 4294967296 * r + u1) :
    (u * 4294967296 + u1) / (y1 * 4294967296 + y0) = q := by
  have hp : 0 < y1 * 4294967296 + y0 := by omega
  refine Nat.le_antisymm h.lo ?_
  rw [Nat.le_div_iff_mul_le hp, h.split, Nat.mul_add, ← Nat.mul_assoc]
  generalize q * y1 = a at *
  generalize q * y0 = b at *
  omega
theorem Gs.next {y1 y0 u u1 q r : Nat} (h : Gs y1 y0 u u1 q r) (hy : 0 < y1) (hu : u < y1 * 4294967296 + y0) (h1 : u1 < 4294967296) (hg : 4294967296 ≤ q ∨ 4294967296 * r + u1 < q * y0) (hr : r + y1 < 4294967296) :
    Gs y1 y0 u u1 (q - 1) (r + y1) := by
  have hl := h.less hy hu h1 hg
  have hq : 1 ≤ q := Nat.lt_of_le_of_lt (Nat.zero_le _) hl
  refine ⟨?_, Nat.le_sub_one_of_lt hl, by have := h.hi; omega, hr⟩
  rw [h.split]
  obtain ⟨p, rfl⟩ : ∃ p, q = p + 1 := ⟨q - 1, by omega⟩
  rw [Nat.add_mul, Nat.one_mul]; simp; omega
theorem Gs.brk {y1 y0 u u1 q r : Nat} (h : Gs y1 y0 u u1 q r) (hy : 0 < y1) (h0 : y0 < 4294967296) (hu : u < y1 * 4294967296 + y0) (h1 : u1 < 4294967296) (hg : 4294967296 ≤ q ∨ 4294967296 * r + u1 < q * y0) (hr : 4294967296 ≤ r + y1) :
    (u * 4294967296 + u1) / (y1 * 4294967296 + y0) = q - 1 := by
  have hl := h.less hy hu h1 hg
  have hp : 0 < y1 * 4294967296 + y0 := by omega
  have hq1 : 1 ≤ q := Nat.lt_of_le_of_lt (Nat.zero_le _) hl
  refine Nat.le_antisymm (Nat.le_sub_one_of_lt hl) ?_
  have hq : q - 1 ≤ 4294967296 := by have := h.hi; omega
  rw [Nat.le_div_iff_mul_le hp, h.split]
  obtain ⟨p, rfl⟩ : ∃ p, q = p + 1 := ⟨q - 1, by omega⟩
  clear hl
  have hb : p * y0 ≤ 4294967296 * 4294967295 := Nat.mul_le_mul (by omega) (by omega)
  have e : (p + 1) * y1 = p * y1 + y1 := by rw [Nat.add_mul, Nat.one_mul]
  rw [e, show p + 1 - 1 = p by omega, Nat.mul_add, ← Nat.mul_assoc]
  generalize p * y1 = a at *
  generalize p * y0 = b at *
  omega
theorem Gs.start {y1 y0 u u1 : Nat} (hy : 2147483648 ≤ y1) (hy2 : y1 < 4294967296) (h0 : y0 < 4294967296) (hu : u < y1 * 4294967296 + y0) (h1 : u1 < 4294967296) : Gs y1 y0 u u1 (u / y1) (u % y1) := by
  have hp : 0 < y1 * 4294967296 + y0 := by omega
  have hm := Nat.mod_lt u (show 0 < y1 by omega)
  have hd := Nat.div_add_mod u y1
  refine ⟨by rw [Nat.mul_comm]; omega, ?_, ?_, by omega⟩
  · refine Nat.le_of_lt_succ ?_
    rw [Nat.div_lt_iff_lt_mul hp]
    have e : Nat.succ (u / y1) * (y1 * 4294967296 + y0) = (y1 * (u / y1) + y1) * 4294967296 + Nat.succ (u / y1) * y0 := by
      rw [Nat.mul_add, ← Nat.mul_assoc, Nat.succ_mul, Nat.mul_comm (u / y1) y1]
    rw [e]
    generalize y1 * (u / y1) = a at *
    generalize Nat.succ (u / y1) * y0 = b at *
    omega
  · refine Nat.le_of_lt_succ ?_
    rw [Nat.div_lt_iff_lt_mul (by omega)]
    omega
theorem Gs.prod {y1 y0 u u1 q r : Nat} (h : Gs y1 y0 u u1 q r) (h0 : y0 < 4294967296) : q * y0 < 18446744073709551616 := by
  have : q * y0 ≤ 4294967297 * 4294967295 := Nat.mul_le_mul h.hi (by omega)
  omega

/-! ### Both digits, and what is left -/
theorem two_any (B n1 n0 Y : Nat) (hY : 0 < Y) : (n1 / Y) * B + (n1 % Y * B + n0) / Y = (n1 * B + n0) / Y ∧ (n1 % Y * B + n0) % Y = (n1 * B + n0) % Y := by
  have hd := Nat.div_add_mod n1 Y
  have e : n1 * B + n0 = (n1 % Y * B + n0) + Y * (n1 / Y * B) := by
    have : n1 * B = (Y * (n1 / Y) + n1 % Y) * B := by rw [hd]
    rw [this, Nat.add_mul, Nat.mul_assoc]; omega
  rw [e, Nat.add_mul_div_left _ _ hY, Nat.add_mul_mod_self_left]
  exact ⟨by omega, rfl⟩
theorem two_digits (n1 n0 Y : Nat) (hY : 0 < Y) : (n1 / Y) * 4294967296 + (n1 % Y * 4294967296 + n0) / Y = (n1 * 4294967296 + n0) / Y ∧ (n1 % Y * 4294967296 + n0) % Y = (n1 * 4294967296 + n0) % Y := two_any _ n1 n0 Y hY
theorem shift_div (n y s : Nat) : (n * 2 ^ s) / (y * 2 ^ s) = n / y ∧ (n * 2 ^ s) % (y * 2 ^ s) / 2 ^ s = n % y := by
  have hp := Nat.two_pow_pos s
  refine ⟨Nat.mul_div_mul_right _ _ hp, ?_⟩
  rw [Nat.mul_mod_mul_right, Nat.mul_div_cancel _ hp]
theorem moved (hi lo s : Nat) (hs : s ≤ 63) (hl : lo < 18446744073709551616) : (hi * 18446744073709551616 + lo) * 2 ^ s = (hi * 2 ^ s + lo / 2 ^ (64 - s)) * 18446744073709551616 + lo * 2 ^ s % 18446744073709551616 := by
  have e : (18446744073709551616 : Nat) = 2 ^ (64 - s) * 2 ^ s := by rw [← Nat.pow_add, show 64 - s + s = 64 by omega]
  have h1 : lo * 2 ^ s % 18446744073709551616 = lo % 2 ^ (64 - s) * 2 ^ s := by rw [e, Nat.mul_mod_mul_right]
  have hd := Nat.div_add_mod lo (2 ^ (64 - s))
  rw [h1, Nat.add_mul, Nat.add_mul]
  have h2 : lo / 2 ^ (64 - s) * 18446744073709551616 = 2 ^ (64 - s) * (lo / 2 ^ (64 - s)) * 2 ^ s := by
    rw [e]; rw [Nat.mul_comm (lo / _), Nat.mul_right_comm]
  rw [h2, Nat.add_assoc, ← Nat.add_mul (2 ^ (64 - s) * (lo / 2 ^ (64 - s))), hd, Nat.mul_right_comm]
theorem lz_up {y s : Nat} (h0 : 0 < y) (h : y < 2 ^ (64 - s)) (h2 : 2 ^ (63 - s) ≤ y) (hs : s ≤ 63) : 9223372036854775808 ≤ y * 2 ^ s ∧ y * 2 ^ s < 18446744073709551616 := by
  have hp := Nat.two_pow_pos s
  have e1 : (18446744073709551616 : Nat) = 2 ^ (64 - s) * 2 ^ s := by rw [← Nat.pow_add, show 64 - s + s = 64 by omega]
  have e2 : (9223372036854775808 : Nat) = 2 ^ (63 - s) * 2 ^ s := by rw [← Nat.pow_add, show 63 - s + s = 63 by omega]
  exact ⟨by rw [e2]; exact Nat.mul_le_mul_right _ h2, by rw [e1]; exact Nat.mul_lt_mul_of_pos_right h hp⟩
theorem or_add {a b s : Nat} (hb : b < 2 ^ s) : (a * 2 ^ s) ||| b = a * 2 ^ s + b := by
  rw [Nat.mul_comm, Nat.two_pow_add_eq_or_of_lt hb]
theorem part_lt {lo s : Nat} (hl : lo < 18446744073709551616) (hs : s ≤ 63) : lo / 2 ^ (64 - s) < 2 ^ s := by
  rw [Nat.div_lt_iff_lt_mul (Nat.two_pow_pos _), ← Nat.pow_add, show s + (64 - s) = 64 by omega]; exact hl
theorem up_lt {hi lo y s : Nat} (h : hi < y) (hl : lo < 18446744073709551616) (hs : s ≤ 63) : hi * 2 ^ s + lo / 2 ^ (64 - s) < y * 2 ^ s := by
  have h1 := part_lt hl hs
  have h2 : (hi + 1) * 2 ^ s ≤ y * 2 ^ s := Nat.mul_le_mul_right _ h
  rw [Nat.add_mul, Nat.one_mul] at h2
  omega
end Go.Proofs.Yteancdipmpmjpaa
namespace Go.Proofs.Yteancdipmpmjpaa

def upB (mode : Int) (r d : Nat) (minus : Bool) : Bool :=
  if r = 0 then false else if mode = 0 then minus else if mode = 1 then !minus else if mode = 2 then (decide (d < 2 * r) || (decide (2 * r = d) && !minus)) else false
def wv (m : Bool) (a : Nat) : Int := if m then -(a : Int) else a
def qMag (z b mode : Int) : Nat := z.natAbs / b.natAbs + if upB mode (z.natAbs % b.natAbs) b.natAbs (decide (z < 0) != decide (b < 0)) then 1 else 0
def rq (z b mode : Int) : Int := wv (decide (z < 0) != decide (b < 0)) (qMag z b mode)
def fits64 (x : Int) : Bool := decide (-9223372036854775808 ≤ x) && decide (x < 9223372036854775808)
def divM (z b mode : Int) : Int × Int :=
  if b = 0 ∨ mode < 0 ∨ 3 < mode then (0, 1) else if fits64 (rq z b mode) then (rq z b mode, 0) else (0, 10)
def badB (b mode : Int) : Bool := decide (b = 0) || decide (mode < 0) || decide (3 < mode)
theorem divM_bad {z b mode : Int} (h : badB b mode = true) : divM z b mode = (0, 1) := by
  unfold badB at h; unfold divM
  simp only [Bool.or_eq_true, decide_eq_true_eq] at h
  rw [if_pos]; rcases h with (h | h) | h
  · exact .inl h
  · exact .inr (.inl h)
  · exact .inr (.inr h)
theorem divM_good {z b mode : Int} (h : badB b mode = false) : divM z b mode = if fits64 (rq z b mode) then (rq z b mode, 0) else (0, 10) := by
  unfold badB at h; unfold divM
  simp only [Bool.or_eq_false_iff, decide_eq_false_iff_not] at h
  rw [if_neg]; rintro (h1 | h1 | h1)
  · exact h.1.1 h1
  · exact h.1.2 h1
  · exact h.2 h1
theorem fits64_iff (x : Int) : fits64 x = true ↔ -9223372036854775808 ≤ x ∧ x ≤ 9223372036854775807 := by
  unfold fits64; simp; omega
theorem divM_fit {z b mode : Int} (h : badB b mode = false) (h2 : fits64 (rq z b mode) = true) : divM z b mode = (rq z b mode, 0) := by rw [divM_good h, if_pos h2]
theorem divM_sat {z b mode : Int} (h : badB b mode = false) (h2 : fits64 (rq z b mode) = false) : divM z b mode = (0, 10) := by rw [divM_good h, if_neg (by rw [h2]; simp)]
theorem fits64_wv (m : Bool) (a : Nat) : fits64 (wv m a) = if m then decide (a ≤ 9223372036854775808) else decide (a < 9223372036854775808) := by
  unfold fits64 wv
  cases m
  · by_cases h : a < 9223372036854775808
    · simp [h]; omega
    · simp [h]; omega
  · by_cases h : a ≤ 9223372036854775808
    · simp [h]; omega
    · simp [h]; omega
theorem qMag_big {z b mode : Int} (h : b.natAbs * 18446744073709551616 ≤ z.natAbs) (hb : b ≠ 0) : fits64 (rq z b mode) = false := by
  have hb0 : 0 < b.natAbs := by omega
  have h1 : 18446744073709551616 ≤ z.natAbs / b.natAbs := (Nat.le_div_iff_mul_le hb0).2 (by rw [Nat.mul_comm]; exact h)
  unfold rq
  rw [fits64_wv]
  have h2 : 18446744073709551616 ≤ qMag z b mode := by unfold qMag; exact Nat.le_trans h1 (Nat.le_add_right _ _)
  generalize qMag z b mode = q at *
  split <;> exact decide_eq_false (by omega)
theorem big_of_fits {m : Bool} {a : Nat} (h : 18446744073709551616 ≤ a) : fits64 (wv m a) = false := by
  rw [fits64_wv]; split <;> exact decide_eq_false (by omega)
end Go.Proofs.Yteancdipmpmjpaa
namespace Go.Proofs.Yteancdipmpmjpaa
set_option linter.unusedVariables false
theorem rq_split (z b : Int) (hb : 0 < b) : ∃ (m : Bool) (q r d : Nat), b = d ∧ 0 < d ∧ r < d ∧ m = decide (z < 0) ∧ (m = false → z = d * q + r) ∧ (m = true → z = -(d * q + r) ∧ 0 < d * q + r) ∧
    ∀ mode, rq z b mode = wv m (q + if upB mode r d m then 1 else 0) := by
  obtain ⟨d, rfl⟩ : ∃ d : Nat, b = d := ⟨b.toNat, by omega⟩
  refine ⟨decide (z < 0), z.natAbs / d, z.natAbs % d, d, rfl, by omega, Nat.mod_lt _ (by omega), rfl, fun h => ?_, fun h => ?_, fun mode => ?_⟩
  · have := Nat.div_add_mod z.natAbs d
    have h' : ¬ z < 0 := by simpa using h
    have e : z = (z.natAbs : Int) := by omega
    rw [← Int.natCast_mul]
    omega
  · have := Nat.div_add_mod z.natAbs d
    have h' : z < 0 := by simpa using h
    rw [← Int.natCast_mul]
    omega
  · unfold rq qMag
    have e : decide ((d : Int) < 0) = false := decide_eq_false (by omega)
    simp only [e, Int.natAbs_natCast, Bool.bne_false]
theorem ediv_one {d : Int} (hd : 0 < d) (q s : Int) : (d * q + s) / d = q + s / d := by
  rw [Int.add_comm, Int.add_mul_ediv_left _ _ (by omega), Int.add_comm]
theorem small_div {s d : Int} (k : Int) (h0 : k * d ≤ s) (h1 : s < (k + 1) * d) (hd : 0 < d) : s / d = k := by
  have a := Int.le_ediv_of_mul_le hd h0
  have b := Int.ediv_lt_of_lt_mul hd h1
  omega
theorem rq_down (z b : Int) (hb : 0 < b) : rq z b 0 = z / b := by
  obtain ⟨m, q, r, d, rfl, hd, hr, hm, h0, h1, h⟩ := rq_split z b hb
  rw [h]
  cases m
  · rw [h0 rfl, ediv_one (by omega), small_div 0 (by omega) (by omega) (by omega)]
    unfold upB wv
    by_cases e4 : r = 0 <;> simp [e4]
  · rw [(h1 rfl).1, show -((d : Int) * q + r) = d * -q + -r by rw [Int.mul_neg (d : Int) q]; omega, ediv_one (by omega)]
    unfold upB wv
    by_cases e4 : r = 0
    · simp [e4]
    · rw [small_div (-1) (by omega) (by omega) (by omega)]
      simp [e4]; omega
theorem rq_up (z b : Int) (hb : 0 < b) : rq z b 1 = -(-z / b) := by
  obtain ⟨m, q, r, d, rfl, hd, hr, hm, h0, h1, h⟩ := rq_split z b hb
  rw [h]
  cases m
  · rw [h0 rfl, show -((d : Int) * q + r) = d * -q + -r by rw [Int.mul_neg (d : Int) q]; omega, ediv_one (by omega)]
    unfold upB wv
    by_cases e4 : r = 0
    · simp [e4]
    · rw [small_div (-1) (by omega) (by omega) (by omega)]
      simp [e4]; omega
  · rw [(h1 rfl).1, Int.neg_neg, ediv_one (by omega), small_div 0 (by omega) (by omega) (by omega)]
    unfold upB wv
    by_cases e4 : r = 0 <;> simp [e4]
theorem divM_down {z b : Int} (hb : 0 < b) (h0 : -9223372036854775808 ≤ z / b) (h1 : z / b < 9223372036854775808) : divM z b 0 = (z / b, 0) := by
  have e := rq_down z b hb
  have f : badB b 0 = false := by unfold badB; rw [decide_eq_false (by omega)]; rfl
  rw [divM_fit f (by rw [e]; unfold fits64; rw [decide_eq_true h0, decide_eq_true h1]; rfl), e]
theorem divM_up {z b : Int} (hb : 0 < b) (h0 : -9223372036854775808 ≤ -(-z / b)) (h1 : -(-z / b) < 9223372036854775808) : divM z b 1 = (-(-z / b), 0) := by
  have e := rq_up z b hb
  have f : badB b 1 = false := by unfold badB; rw [decide_eq_false (by omega)]; rfl
  rw [divM_fit f (by rw [e]; unfold fits64; rw [decide_eq_true h0, decide_eq_true h1]; rfl), e]
end Go.Proofs.Yteancdipmpmjpaa
namespace Go.Proofs.Yteancdipmpmjpaa
set_option linter.unusedVariables false
def cdiv (a b : Int) : Int := -(-a / b)
theorem cdiv_le {a b x : Int} (hb : 0 < b) : cdiv a b ≤ x ↔ a ≤ x * b := by
  unfold cdiv
  have := Int.le_ediv_iff_mul_le (a := -x) (b := -a) hb
  rw [Int.neg_mul] at this
  omega
theorem cdiv_nonneg {a b : Int} (ha : 0 ≤ a) (hb : 0 < b) : 0 ≤ cdiv a b := by
  have := (cdiv_le (a := a) (x := -1) hb).1
  by_cases h : cdiv a b ≤ -1
  · have := this h; omega
  · omega
def ups (a b : Int) : Int := if b = 0 then 1099511627776 else min (cdiv a b) 1099511627776
theorem ups_bd {a b : Int} (ha : 0 ≤ a) (hb : 0 ≤ b) : 0 ≤ ups a b ∧ ups a b ≤ 1099511627776 := by
  unfold ups
  split
  · omega
  · have := cdiv_nonneg ha (show 0 < b by omega)
    omega
theorem divM_ups {a b : Int} (ha : 0 ≤ a) (hb : 0 < b) : divM a b 1 = (cdiv a b, 0) ∧ 0 ≤ cdiv a b ∧ cdiv a b ≤ 9223372036854775807 ∨ (∃ y c, divM a b 1 = (y, c) ∧ (c != 0) = true) ∧ 1099511627776 ≤ cdiv a b := by
  have hn := cdiv_nonneg ha hb
  by_cases h : cdiv a b ≤ 9223372036854775807
  · exact .inl ⟨by unfold cdiv at h hn; exact divM_up hb (by omega) (by omega), hn, h⟩
  · refine .inr ⟨⟨0, 10, ?_, rfl⟩, by omega⟩
    have f : badB b 1 = false := by unfold badB; rw [decide_eq_false (by omega)]; rfl
    have e := rq_up a b hb
    refine divM_sat f ?_
    rw [e]
    unfold fits64
    rw [decide_eq_false (show ¬ (-(-a / b) : Int) < 9223372036854775808 by unfold cdiv at h; omega), Bool.and_false]
def cost18 (n : Int) : Int := ups (n * 1099511627776) (1073741824 - 4 * n)
theorem cost_bd {n : Int} (h0 : 0 ≤ n) (h1 : n ≤ 4096) : divM (n * 1099511627776) (1073741824 - 4 * n) 1 = (cost18 n, 0) ∧ 0 ≤ cost18 n ∧ cost18 n ≤ 4200000 := by
  have hb : 0 < 1073741824 - 4 * n := by omega
  have h2 : cdiv (n * 1099511627776) (1073741824 - 4 * n) ≤ 4200000 := (cdiv_le hb).2 (by omega)
  have hn := cdiv_nonneg (show 0 ≤ n * 1099511627776 by omega) hb
  have e : cost18 n = cdiv (n * 1099511627776) (1073741824 - 4 * n) := by unfold cost18 ups; rw [if_neg (by omega)]; omega
  rw [e]
  refine ⟨?_, hn, h2⟩
  unfold cdiv at h2 hn ⊢
  exact divM_up hb (by omega) (by omega)
def plus18 (a b : Int) : Int := if a + b > 1099511627776 then 1099511627776 else a + b
theorem plus_min {a b : Int} (b0 : 0 ≤ b) (b1 : b ≤ 1099511627776) : min a (1099511627776 - min b 1099511627776) + min b 1099511627776 = plus18 a b := by unfold plus18; split <;> omega
theorem plus_bd {a b : Int} (a0 : 0 ≤ a) (b0 : 0 ≤ b) : 0 ≤ plus18 a b ∧ plus18 a b ≤ 1099511627776 := by unfold plus18; split <;> omega
def scal18 (b most s z : Int) : Int := ups (b * (most * s)) z
theorem prod_bd {b m s : Int} (b0 : 0 ≤ b) (b1 : b ≤ 1099511627776) (m0 : 0 ≤ m) (m1 : m ≤ 65536) (s0 : 0 ≤ s) (s1 : s ≤ 1073741824) : (0 ≤ m * s ∧ m * s ≤ 70368744177664) ∧ 0 ≤ b * (m * s) ∧ b * (m * s) ≤ 77371252455336267181195264 := by
  have h1 := Int.mul_nonneg m0 s0
  have h2 := Int.mul_le_mul m1 s1 s0 (by omega)
  have h3 := Int.mul_nonneg b0 h1
  have h4 := Int.mul_le_mul b1 (show m * s ≤ 70368744177664 by omega) h1 (by omega)
  omega
end Go.Proofs.Yteancdipmpmjpaa
