/-
  Plain arithmetic of a long division by two digits of 32 bits, as math/bits.Div64 does it. No program in sight.
-/
import Init
namespace Go.Proofs.Yteancdipmpmjpaa
set_option linter.unusedVariables false

/-- What holds of a digit that is guessed, and what it leaves of the upper digit's part. -/
structure Gs (y1 y0 u u1 q r : Nat) : Prop where
  split : u = q * y1 + r
  lo : (u * 4294967296 + u1) / (y1 * 4294967296 + y0) ≤ q
  hi : q ≤ 4294967297
  rest : r < 4294967296

theorem Gs.less {y1 y0 u u1 q r : Nat} (h : Gs y1 y0 u u1 q r) (hy : 0 < y1) (hu : u < y1 * 4294967296 + y0) (h1 : u1 < 4294967296) (hg : 4294967296 ≤ q ∨ 4294967296 * r + u1 < q * y0) :
    (u * 4294967296 + u1) / (y1 * 4294967296 + y0) < q := by
  have hp : 0 < y1 * 4294967296 + y0 := by omega
  rcases hg with hg | hg
  · refine Nat.lt_of_lt_of_le ?_ hg
    rw [Nat.div_lt_iff_lt_mul hp]
    clear h hg hp hy
    omega
  · rw [Nat.div_lt_iff_lt_mul hp, h.split, Nat.mul_add, ← Nat.mul_assoc]
    generalize q * y1 = a at *
    generalize q * y0 = b at *
    omega
theorem Gs.fit {y1 y0 u u1 q r : Nat} (h : Gs y1 y0 u u1 q r) (hy : 0 < y1) (hg : q * y0 ≤ 4294967296 * r + u1) :
    (u * 4294967296 + u1) / (y1 * 4294967296 + y0) = q := by
  have hp : 0 < y1 * 4294967296 + y0 := by omega
  refine Nat.le_antisymm h.lo ?_
  rw [Nat.le_div_iff_mul_le hp, h.split, Nat.mul_add, ← Nat.mul_assoc]
  generalize q * y1 = a at *
  generalize q * y0 = b at *
  omega
/-- One less: it still holds, unless the rest is a digit's all: then the digit is found. -/
theorem Gs.next {y1 y0 u u1 q r : Nat} (h : Gs y1 y0 u u1 q r) (hy : 0 < y1) (hu : u < y1 * 4294967296 + y0) (h1 : u1 < 4294967296) (hg : 4294967296 ≤ q ∨ 4294967296 * r + u1 < q * y0) (hr : r + y1 < 4294967296) :
    Gs y1 y0 u u1 (q - 1) (r + y1) := by
  have hl := h.less hy hu h1 hg
  have hq : 1 ≤ q := Nat.lt_of_le_of_lt (Nat.zero_le _) hl
  refine ⟨?_, Nat.le_sub_one_of_lt hl, by have := h.hi; omega, hr⟩
  rw [h.split]
  obtain ⟨p, rfl⟩ : ∃ p, q = p + 1 := ⟨q - 1, by omega⟩
  rw [Nat.add_mul, Nat.one_mul]; simp; omega
theorem Gs.brk {y1 y0 u u1 q r : Nat} (h : Gs y1 y0 u u1 q r) (hy : 0 < y1) (h0 : y0 < 4294967296) (hu : u < y1 * 4294967296 + y0) (h1 : u1 < 4294967296) (hg : 4294967296 ≤ q ∨ 4294967296 * r + u1 < q * y0) (hr : 4294967296 ≤ r + y1) :
    (u * 4294967296 + u1) / (y1 * 4294967296 + y0) = q - 1 := by
  have hl := h.less hy hu h1 hg
  have hp : 0 < y1 * 4294967296 + y0 := by omega
  have hq1 : 1 ≤ q := Nat.lt_of_le_of_lt (Nat.zero_le _) hl
  refine Nat.le_antisymm (Nat.le_sub_one_of_lt hl) ?_
  have hq : q - 1 ≤ 4294967296 := by have := h.hi; omega
  rw [Nat.le_div_iff_mul_le hp, h.split]
  obtain ⟨p, rfl⟩ : ∃ p, q = p + 1 := ⟨q - 1, by omega⟩
  clear hl
  have hb : p * y0 ≤ 4294967296 * 4294967295 := Nat.mul_le_mul (by omega) (by omega)
  have e : (p + 1) * y1 = p * y1 + y1 := by rw [Nat.add_mul, Nat.one_mul]
  rw [e, show p + 1 - 1 = p by omega, Nat.mul_add, ← Nat.mul_assoc]
  generalize p * y1 = a at *
  generalize p * y0 = b at *
  omega
/-- The first guess. -/
theorem Gs.start {y1 y0 u u1 : Nat} (hy : 2147483648 ≤ y1) (hy2 : y1 < 4294967296) (h0 : y0 < 4294967296) (hu : u < y1 * 4294967296 + y0) (h1 : u1 < 4294967296) : Gs y1 y0 u u1 (u / y1) (u % y1) := by
  have hp : 0 < y1 * 4294967296 + y0 := by omega
  have hm := Nat.mod_lt u (show 0 < y1 by omega)
  have hd := Nat.div_add_mod u y1
  refine ⟨by rw [Nat.mul_comm]; omega, ?_, ?_, by omega⟩
  · refine Nat.le_of_lt_succ ?_
    rw [Nat.div_lt_iff_lt_mul hp]
    have e : Nat.succ (u / y1) * (y1 * 4294967296 + y0) = (y1 * (u / y1) + y1) * 4294967296 + Nat.succ (u / y1) * y0 := by
      rw [Nat.mul_add, ← Nat.mul_assoc, Nat.succ_mul, Nat.mul_comm (u / y1) y1]
    rw [e]
    generalize y1 * (u / y1) = a at *
    generalize Nat.succ (u / y1) * y0 = b at *
    omega
  · refine Nat.le_of_lt_succ ?_
    rw [Nat.div_lt_iff_lt_mul (by omega)]
    omega
/-- No product on the way is too great. -/
theorem Gs.prod {y1 y0 u u1 q r : Nat} (h : Gs y1 y0 u u1 q r) (h0 : y0 < 4294967296) : q * y0 < 18446744073709551616 := by
  have : q * y0 ≤ 4294967297 * 4294967295 := Nat.mul_le_mul h.hi (by omega)
  omega

/-! ### Both digits, and what is left -/
theorem two_any (B n1 n0 Y : Nat) (hY : 0 < Y) : (n1 / Y) * B + (n1 % Y * B + n0) / Y = (n1 * B + n0) / Y ∧ (n1 % Y * B + n0) % Y = (n1 * B + n0) % Y := by
  have hd := Nat.div_add_mod n1 Y
  have e : n1 * B + n0 = (n1 % Y * B + n0) + Y * (n1 / Y * B) := by
    have : n1 * B = (Y * (n1 / Y) + n1 % Y) * B := by rw [hd]
    rw [this, Nat.add_mul, Nat.mul_assoc]; omega
  rw [e, Nat.add_mul_div_left _ _ hY, Nat.add_mul_mod_self_left]
  exact ⟨by omega, rfl⟩
theorem two_digits (n1 n0 Y : Nat) (hY : 0 < Y) : (n1 / Y) * 4294967296 + (n1 % Y * 4294967296 + n0) / Y = (n1 * 4294967296 + n0) / Y ∧ (n1 % Y * 4294967296 + n0) % Y = (n1 * 4294967296 + n0) % Y := two_any _ n1 n0 Y hY
theorem shift_div (n y s : Nat) : (n * 2 ^ s) / (y * 2 ^ s) = n / y ∧ (n * 2 ^ s) % (y * 2 ^ s) / 2 ^ s = n % y := by
  have hp := Nat.two_pow_pos s
  refine ⟨Nat.mul_div_mul_right _ _ hp, ?_⟩
  rw [Nat.mul_mod_mul_right, Nat.mul_div_cancel _ hp]
theorem take_off (n Y : Nat) (h : Y < 18446744073709551616) (hY : 0 < Y) : (((n : Int) - (n / Y : Nat) * (Y : Int)) % 18446744073709551616) = ((n % Y : Nat) : Int) := by
  have hm := Nat.mod_lt n hY
  have hd := Nat.div_add_mod n Y
  have e : (n : Int) - (n / Y : Nat) * (Y : Int) = ((n % Y : Nat) : Int) := by
    rw [← Int.natCast_mul, Nat.mul_comm]
    generalize Y * (n / Y) = p at *
    omega
  rw [e]
  generalize n % Y = r at *
  omega
/-- The number, moved up by s bits, in three parts. -/
theorem moved (hi lo s : Nat) (hs : s ≤ 63) (hl : lo < 18446744073709551616) : (hi * 18446744073709551616 + lo) * 2 ^ s = (hi * 2 ^ s + lo / 2 ^ (64 - s)) * 18446744073709551616 + lo * 2 ^ s % 18446744073709551616 := by
  have e : (18446744073709551616 : Nat) = 2 ^ (64 - s) * 2 ^ s := by rw [← Nat.pow_add, show 64 - s + s = 64 by omega]
  have h1 : lo * 2 ^ s % 18446744073709551616 = lo % 2 ^ (64 - s) * 2 ^ s := by rw [e, Nat.mul_mod_mul_right]
  have hd := Nat.div_add_mod lo (2 ^ (64 - s))
  rw [h1, Nat.add_mul, Nat.add_mul]
  have h2 : lo / 2 ^ (64 - s) * 18446744073709551616 = 2 ^ (64 - s) * (lo / 2 ^ (64 - s)) * 2 ^ s := by
    rw [e]; rw [Nat.mul_comm (lo / _), Nat.mul_right_comm]
  rw [h2, Nat.add_assoc, ← Nat.add_mul (2 ^ (64 - s) * (lo / 2 ^ (64 - s))), hd, Nat.mul_right_comm]
theorem lz_up {y s : Nat} (h0 : 0 < y) (h : y < 2 ^ (64 - s)) (h2 : 2 ^ (63 - s) ≤ y) (hs : s ≤ 63) : 9223372036854775808 ≤ y * 2 ^ s ∧ y * 2 ^ s < 18446744073709551616 := by
  have hp := Nat.two_pow_pos s
  have e1 : (18446744073709551616 : Nat) = 2 ^ (64 - s) * 2 ^ s := by rw [← Nat.pow_add, show 64 - s + s = 64 by omega]
  have e2 : (9223372036854775808 : Nat) = 2 ^ (63 - s) * 2 ^ s := by rw [← Nat.pow_add, show 63 - s + s = 63 by omega]
  exact ⟨by rw [e2]; exact Nat.mul_le_mul_right _ h2, by rw [e1]; exact Nat.mul_lt_mul_of_pos_right h hp⟩
theorem or_add {a b s : Nat} (hb : b < 2 ^ s) : (a * 2 ^ s) ||| b = a * 2 ^ s + b := by
  rw [Nat.mul_comm, Nat.two_pow_add_eq_or_of_lt hb]
theorem part_lt {lo s : Nat} (hl : lo < 18446744073709551616) (hs : s ≤ 63) : lo / 2 ^ (64 - s) < 2 ^ s := by
  rw [Nat.div_lt_iff_lt_mul (Nat.two_pow_pos _), ← Nat.pow_add, show s + (64 - s) = 64 by omega]; exact hl
theorem up_lt {hi lo y s : Nat} (h : hi < y) (hl : lo < 18446744073709551616) (hs : s ≤ 63) : hi * 2 ^ s + lo / 2 ^ (64 - s) < y * 2 ^ s := by
  have h1 := part_lt hl hs
  have h2 : (hi + 1) * 2 ^ s ≤ y * 2 ^ s := Nat.mul_le_mul_right _ h
  rw [Nat.add_mul, Nat.one_mul] at h2
  omega
end Go.Proofs.Yteancdipmpmjpaa
