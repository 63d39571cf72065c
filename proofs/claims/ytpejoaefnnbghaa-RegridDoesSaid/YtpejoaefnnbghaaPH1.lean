/-
  Lemmas and walks of this claim (the texts Dp03 Dq03 Rq of the work; what no proof here uses is left out). No claim of their own.
-/
import Init
set_option linter.all false
set_option linter.unusedSimpArgs false
set_option linter.unusedVariables false
namespace Go.Proofs.Ytpejoaefnnbghaa
set_option linter.unusedVariables false

structure Gs (y1 y0 u u1 q r : Nat) : Prop where
  split : u = q * y1 + r
  lo : (u * 4294967296 + u1) / (y1 * 4294967296 + y0) ≤ q
  hi : q ≤ 4294967297
  rest : r < 4294967296

theorem Gs.less {y1 y0 u u1 q r : Nat} (h : Gs y1 y0 u u1 q r) (hy : 0 < y1) (hu : u < y1 * 4294967296 + y0) (h1 : u1 < 4294967296) (hg : 4294967296 ≤ q ∨ 4294967296 * r + u1 < q * y0) :
    (u * 4294967296 + u1) / (y1 * 4294967296 + y0) < q := by
  have hp : 0 < y1 * 4294967296 + y0 := by omega
  rcases hg with hg | hg
  · refine Nat.lt_of_lt_of_le ?_ hg
    rw [Nat.div_lt_iff_lt_mul hp]
    clear h hg hp hy
    omega
  · rw [Nat.div_lt_iff_lt_mul hp, h.split, Nat.mul_add, ← Nat.mul_assoc]
    generalize q * y1 = a at *
    generalize q * y0 = b at *
    omega
theorem Gs.fit {y1 y0 u u1 q r : Nat} (h : Gs y1 y0 u u1 q r) (hy : 0 < y1) (hg : q * y0 ≤ 4294967296 * r + u1) :
    (u * 4294967296 + u1) / (y1 * 4294967296 + y0) = q := by
  have hp : 0 < y1 * 4294967296 + y0 := by omega
  refine Nat.le_antisymm h.lo ?_
  rw [Nat.le_div_iff_mul_le hp, h.split, Nat.mul_add, ← Nat.mul_assoc]
  generalize q * y1 = a at *
  generalize q * y0 = b at *
  omega
theorem Gs.next {y1 y0 u u1 q r : Nat} (h : Gs y1 y0 u u1 q r) (hy : 0 < y1) (hu : u < y1 * 4294967296 + y0) (h1 : u1 < 4294967296) (hg : 4294967296 ≤ q ∨ 4294967296 * r + u1 < q * y0) (hr : r + y1 < 4294967296) :
    Gs y1 y0 u u1 (q - 1) (r + y1) := by
  have hl := h.less hy hu h1 hg
  have hq : 1 ≤ q := Nat.lt_of_le_of_lt (Nat.zero_le _) hl
  refine ⟨?_, Nat.le_sub_one_of_lt hl, by have := h.hi; omega, hr⟩
  rw [h.split]
  obtain ⟨p, rfl⟩ : ∃ p, q = p + 1 := ⟨q - 1, by omega⟩
  rw [Nat.add_mul, Nat.one_mul]; simp; omega
theorem Gs.brk {y1 y0 u u1 q r : Nat} (h : Gs y1 y0 u u1 q r) (hy : 0 < y1) (h0 : y0 < 4294967296) (hu : u < y1 * 4294967296 + y0) (h1 : u1 < 4294967296) (hg : 4294967296 ≤ q ∨ 4294967296 * r + u1 < q * y0) (hr : 4294967296 ≤ r + y1) :
    (u * 4294967296 + u1) / (y1 * 4294967296 + y0) = q - 1 := by
  have hl := h.less hy hu h1 hg
  have hp : 0 < y1 * 4294967296 + y0 := by omega
  have hq1 : 1 ≤ q := Nat.lt_of_le_of_lt (Nat.zero_le _) hl
  refine Nat.le_antisymm (Nat.le_sub_one_of_lt hl) ?_
  have hq : q - 1 ≤ 4294967296 := by have := h.hi; omega
  rw [Nat.le_div_iff_mul_le hp, h.split]
  obtain ⟨p, rfl⟩ : ∃ p, q = p + 1 := ⟨q - 1, by omega⟩
  clear hl
  have hb : p * y0 ≤ 4294967296 * 4294967295 := Nat.mul_le_mul (by omega) (by omega)
  have e : (p + 1) * y1 = p * y1 + y1 := by rw [Nat.add_mul, Nat.one_mul]
  rw [e, show p + 1 - 1 = p by omega, Nat.mul_add, ← Nat.mul_assoc]
  generalize p * y1 = a at *
  generalize p * y0 = b at *
  omega
theorem Gs.start {y1 y0 u u1 : Nat} (hy : 2147483648 ≤ y1) (hy2 : y1 < 4294967296) (h0 : y0 < 4294967296) (hu : u < y1 * 4294967296 + y0) (h1 : u1 < 4294967296) : Gs y1 y0 u u1 (u / y1) (u % y1) := by
  have hp : 0 < y1 * 4294967296 + y0 := by omega
  have hm := Nat.mod_lt u (show 0 < y1 by omega)
  have hd := Nat.div_add_mod u y1
  refine ⟨by rw [Nat.mul_comm]; omega, ?_, ?_, by omega⟩
  · refine Nat.le_of_lt_succ ?_
    rw [Nat.div_lt_iff_lt_mul hp]
    have e : Nat.succ (u / y1) * (y1 * 4294967296 + y0) = (y1 * (u / y1) + y1) * 4294967296 + Nat.succ (u / y1) * y0 := by
      rw [Nat.mul_add, ← Nat.mul_assoc, Nat.succ_mul, Nat.mul_comm (u / y1) y1]
    rw [e]
    generalize y1 * (u / y1) = a at *
    generalize Nat.succ (u / y1) * y0 = b at *
    omega
  · refine Nat.le_of_lt_succ ?_
    rw [Nat.div_lt_iff_lt_mul (by omega)]
    omega
theorem Gs.prod {y1 y0 u u1 q r : Nat} (h : Gs y1 y0 u u1 q r) (h0 : y0 < 4294967296) : q * y0 < 18446744073709551616 := by
  have : q * y0 ≤ 4294967297 * 4294967295 := Nat.mul_le_mul h.hi (by omega)
  omega

/-! ### Both digits, and what is left -/
theorem two_any (B n1 n0 Y : Nat) (hY : 0 < Y) : (n1 / Y) * B + (n1 % Y * B + n0) / Y = (n1 * B + n0) / Y ∧ (n1 % Y * B + n0) % Y = (n1 * B + n0) % Y := by
  have hd := Nat.div_add_mod n1 Y
  have e : n1 * B + n0 = (n1 % Y * B + n0) + Y * (n1 / Y * B) := by
    have : n1 * B = (Y * (n1 / Y) + n1 % Y) * B := by rw [hd]
    rw [this, Nat.add_mul, Nat.mul_assoc]; omega
  rw [e, Nat.add_mul_div_left _ _ hY, Nat.add_mul_mod_self_left]
  exact ⟨by omega, rfl⟩
theorem two_digits (n1 n0 Y : Nat) (hY : 0 < Y) : (n1 / Y) * 4294967296 + (n1 % Y * 4294967296 + n0) / Y = (n1 * 4294967296 + n0) / Y ∧ (n1 % Y * 4294967296 + n0) % Y = (n1 * 4294967296 + n0) % Y := two_any _ n1 n0 Y hY
theorem shift_div (n y s : Nat) : (n * 2 ^ s) / (y * 2 ^ s) = n / y ∧ (n * 2 ^ s) % (y * 2 ^ s) / 2 ^ s = n % y := by
  have hp := Nat.two_pow_pos s
  refine ⟨Nat.mul_div_mul_right _ _ hp, ?_⟩
  rw [Nat.mul_mod_mul_right, Nat.mul_div_cancel _ hp]
theorem moved (hi lo s : Nat) (hs : s ≤ 63) (hl : lo < 18446744073709551616) : (hi * 18446744073709551616 + lo) * 2 ^ s = (hi * 2 ^ s + lo / 2 ^ (64 - s)) * 18446744073709551616 + lo * 2 ^ s % 18446744073709551616 := by
  have e : (18446744073709551616 : Nat) = 2 ^ (64 - s) * 2 ^ s := by rw [← Nat.pow_add, show 64 - s + s = 64 by omega]
  have h1 : lo * 2 ^ s % 18446744073709551616 = lo % 2 ^ (64 - s) * 2 ^ s := by rw [e, Nat.mul_mod_mul_right]
  have hd := Nat.div_add_mod lo (2 ^ (64 - s))
  rw [h1, Nat.add_mul, Nat.add_mul]
  have h2 : lo / 2 ^ (64 - s) * 18446744073709551616 = 2 ^ (64 - s) * (lo / 2 ^ (64 - s)) * 2 ^ s := by
    rw [e]; rw [Nat.mul_comm (lo / _), Nat.mul_right_comm]
  rw [h2, Nat.add_assoc, ← Nat.add_mul (2 ^ (64 - s) * (lo / 2 ^ (64 - s))), hd, Nat.mul_right_comm]
theorem lz_up {y s : Nat} (h0 : 0 < y) (h : y < 2 ^ (64 - s)) (h2 : 2 ^ (63 - s) ≤ y) (hs : s ≤ 63) : 9223372036854775808 ≤ y * 2 ^ s ∧ y * 2 ^ s < 18446744073709551616 := by
  have hp := Nat.two_pow_pos s
  have e1 : (18446744073709551616 : Nat) = 2 ^ (64 - s) * 2 ^ s := by rw [← Nat.pow_add, show 64 - s + s = 64 by omega]
  have e2 : (9223372036854775808 : Nat) = 2 ^ (63 - s) * 2 ^ s := by rw [← Nat.pow_add, show 63 - s + s = 63 by omega]
  exact ⟨by rw [e2]; exact Nat.mul_le_mul_right _ h2, by rw [e1]; exact Nat.mul_lt_mul_of_pos_right h hp⟩
theorem or_add {a b s : Nat} (hb : b < 2 ^ s) : (a * 2 ^ s) ||| b = a * 2 ^ s + b := by
  rw [Nat.mul_comm, Nat.two_pow_add_eq_or_of_lt hb]
theorem part_lt {lo s : Nat} (hl : lo < 18446744073709551616) (hs : s ≤ 63) : lo / 2 ^ (64 - s) < 2 ^ s := by
  rw [Nat.div_lt_iff_lt_mul (Nat.two_pow_pos _), ← Nat.pow_add, show s + (64 - s) = 64 by omega]; exact hl
theorem up_lt {hi lo y s : Nat} (h : hi < y) (hl : lo < 18446744073709551616) (hs : s ≤ 63) : hi * 2 ^ s + lo / 2 ^ (64 - s) < y * 2 ^ s := by
  have h1 := part_lt hl hs
  have h2 : (hi + 1) * 2 ^ s ≤ y * 2 ^ s := Nat.mul_le_mul_right _ h
  rw [Nat.add_mul, Nat.one_mul] at h2
  omega
end Go.Proofs.Ytpejoaefnnbghaa
namespace Go.Proofs.Ytpejoaefnnbghaa

def upB (mode : Int) (r d : Nat) (minus : Bool) : Bool :=
  if r = 0 then false else if mode = 0 then minus else if mode = 1 then !minus else if mode = 2 then (decide (d < 2 * r) || (decide (2 * r = d) && !minus)) else false
def wv (m : Bool) (a : Nat) : Int := if m then -(a : Int) else a
def qMag (z b mode : Int) : Nat := z.natAbs / b.natAbs + if upB mode (z.natAbs % b.natAbs) b.natAbs (decide (z < 0) != decide (b < 0)) then 1 else 0
def rq (z b mode : Int) : Int := wv (decide (z < 0) != decide (b < 0)) (qMag z b mode)
def fits64 (x : Int) : Bool := decide (-9223372036854775808 ≤ x) && decide (x < 9223372036854775808)
def divM (z b mode : Int) : Int × Int :=
  if b = 0 ∨ mode < 0 ∨ 3 < mode then (0, 1) else if fits64 (rq z b mode) then (rq z b mode, 0) else (0, 10)
def badB (b mode : Int) : Bool := decide (b = 0) || decide (mode < 0) || decide (3 < mode)
theorem divM_bad {z b mode : Int} (h : badB b mode = true) : divM z b mode = (0, 1) := by
  unfold badB at h; unfold divM
  simp only [Bool.or_eq_true, decide_eq_true_eq] at h
  rw [if_pos]; rcases h with (h | h) | h
  · exact .inl h
  · exact .inr (.inl h)
  · exact .inr (.inr h)
theorem divM_good {z b mode : Int} (h : badB b mode = false) : divM z b mode = if fits64 (rq z b mode) then (rq z b mode, 0) else (0, 10) := by
  unfold badB at h; unfold divM
  simp only [Bool.or_eq_false_iff, decide_eq_false_iff_not] at h
  rw [if_neg]; rintro (h1 | h1 | h1)
  · exact h.1.1 h1
  · exact h.1.2 h1
  · exact h.2 h1
theorem fits64_iff (x : Int) : fits64 x = true ↔ -9223372036854775808 ≤ x ∧ x ≤ 9223372036854775807 := by
  unfold fits64; simp; omega
theorem divM_fit {z b mode : Int} (h : badB b mode = false) (h2 : fits64 (rq z b mode) = true) : divM z b mode = (rq z b mode, 0) := by rw [divM_good h, if_pos h2]
theorem fits64_wv (m : Bool) (a : Nat) : fits64 (wv m a) = if m then decide (a ≤ 9223372036854775808) else decide (a < 9223372036854775808) := by
  unfold fits64 wv
  cases m
  · by_cases h : a < 9223372036854775808
    · simp [h]; omega
    · simp [h]; omega
  · by_cases h : a ≤ 9223372036854775808
    · simp [h]; omega
    · simp [h]; omega
theorem qMag_big {z b mode : Int} (h : b.natAbs * 18446744073709551616 ≤ z.natAbs) (hb : b ≠ 0) : fits64 (rq z b mode) = false := by
  have hb0 : 0 < b.natAbs := by omega
  have h1 : 18446744073709551616 ≤ z.natAbs / b.natAbs := (Nat.le_div_iff_mul_le hb0).2 (by rw [Nat.mul_comm]; exact h)
  unfold rq
  rw [fits64_wv]
  have h2 : 18446744073709551616 ≤ qMag z b mode := by unfold qMag; exact Nat.le_trans h1 (Nat.le_add_right _ _)
  generalize qMag z b mode = q at *
  split <;> exact decide_eq_false (by omega)
theorem big_of_fits {m : Bool} {a : Nat} (h : 18446744073709551616 ≤ a) : fits64 (wv m a) = false := by
  rw [fits64_wv]; split <;> exact decide_eq_false (by omega)
end Go.Proofs.Ytpejoaefnnbghaa
namespace Go.Proofs.Ytpejoaefnnbghaa
set_option linter.unusedVariables false
theorem rq_split (z b : Int) (hb : 0 < b) : ∃ (m : Bool) (q r d : Nat), b = d ∧ 0 < d ∧ r < d ∧ m = decide (z < 0) ∧ (m = false → z = d * q + r) ∧ (m = true → z = -(d * q + r) ∧ 0 < d * q + r) ∧
    ∀ mode, rq z b mode = wv m (q + if upB mode r d m then 1 else 0) := by
  obtain ⟨d, rfl⟩ : ∃ d : Nat, b = d := ⟨b.toNat, by omega⟩
  refine ⟨decide (z < 0), z.natAbs / d, z.natAbs % d, d, rfl, by omega, Nat.mod_lt _ (by omega), rfl, fun h => ?_, fun h => ?_, fun mode => ?_⟩
  · have := Nat.div_add_mod z.natAbs d
    have h' : ¬ z < 0 := by simpa using h
    have e : z = (z.natAbs : Int) := by omega
    rw [← Int.natCast_mul]
    omega
  · have := Nat.div_add_mod z.natAbs d
    have h' : z < 0 := by simpa using h
    rw [← Int.natCast_mul]
    omega
  · unfold rq qMag
    have e : decide ((d : Int) < 0) = false := decide_eq_false (by omega)
    simp only [e, Int.natAbs_natCast, Bool.bne_false]
theorem ediv_one {d : Int} (hd : 0 < d) (q s : Int) : (d * q + s) / d = q + s / d := by
  rw [Int.add_comm, Int.add_mul_ediv_left _ _ (by omega), Int.add_comm]
theorem small_div {s d : Int} (k : Int) (h0 : k * d ≤ s) (h1 : s < (k + 1) * d) (hd : 0 < d) : s / d = k := by
  have a := Int.le_ediv_of_mul_le hd h0
  have b := Int.ediv_lt_of_lt_mul hd h1
  omega
theorem rq_down (z b : Int) (hb : 0 < b) : rq z b 0 = z / b := by
  obtain ⟨m, q, r, d, rfl, hd, hr, hm, h0, h1, h⟩ := rq_split z b hb
  rw [h]
  cases m
  · rw [h0 rfl, ediv_one (by omega), small_div 0 (by omega) (by omega) (by omega)]
    unfold upB wv
    by_cases e4 : r = 0 <;> simp [e4]
  · rw [(h1 rfl).1, show -((d : Int) * q + r) = d * -q + -r by rw [Int.mul_neg (d : Int) q]; omega, ediv_one (by omega)]
    unfold upB wv
    by_cases e4 : r = 0
    · simp [e4]
    · rw [small_div (-1) (by omega) (by omega) (by omega)]
      simp [e4]; omega
theorem divM_down {z b : Int} (hb : 0 < b) (h0 : -9223372036854775808 ≤ z / b) (h1 : z / b < 9223372036854775808) : divM z b 0 = (z / b, 0) := by
  have e := rq_down z b hb
  have f : badB b 0 = false := by unfold badB; rw [decide_eq_false (by omega)]; rfl
  rw [divM_fit f (by rw [e]; unfold fits64; rw [decide_eq_true h0, decide_eq_true h1]; rfl), e]
end Go.Proofs.Ytpejoaefnnbghaa
