/-
  Lemmas and walks of this claim (the texts Dp03 Dq03 Pa35 of the work; what no proof here uses is left out). No claim of their own.
-/
import Init
set_option linter.all false
set_option linter.unusedSimpArgs false
set_option linter.unusedVariables false
namespace Go.Proofs.Ytpbginihkhfdmaa
set_option linter.unusedVariables false

structure Gs (y1 y0 u u1 q r : Nat) : Prop where
  split : u = q * y1 + r
  lo : (u * 4294967296 + u1) / (y1 * 4294967296 + y0) ≤ q
  hi : q ≤ 4294967297
  rest : r < 4294967296

theorem Gs.less {y1 y0 u u1 q r : Nat} (h : Gs y1 y0 u u1 q r) (hy : 0 < y1) (hu : u < y1 * 4294967296 + y0) (h1 : u1 < 4294967296) (hg : 4294967296 ≤ q ∨ 4294967296 * r + u1 < q * y0) :
    (u * 4294967296 + u1) / (y1 * 4294967296 + y0) < q := by
  have hp : 0 < y1 * 4294967296 + y0 := by omega
  rcases hg with hg | hg
  · refine Nat.lt_of_lt_of_le ?_ hg
    rw [Nat.div_lt_iff_lt_mul hp]
    clear h hg hp hy
    omega
  · rw [Nat.div_lt_iff_lt_mul hp, h.split, Nat.mul_add, ← Nat.mul_assoc]
    generalize q * y1 = a at *
    generalize q * y0 = b at *
    omega
theorem Gs.fit {y1 y0 u u1 q r : Nat} (h : Gs y1 y0 u u1 q r) (hy : 0 < y1) (hg : q * y0 ≤ 4294967296 * r + u1) :
    (u * 4294967296 + u1) / (y1 * 4294967296 + y0) = q := by
  have hp : 0 < y1 * 4294967296 + y0 := by omega
  refine Nat.le_antisymm h.lo ?_
  rw [Nat.le_div_iff_mul_le hp, h.split, Nat.mul_add, ← Nat.mul_assoc]
  generalize q * y1 = a at *
  generalize q * y0 = b at *
  omega
theorem Gs.next {y1 y0 u u1 q r : Nat} (h : Gs y1 y0 u u1 q r) (hy : 0 < y1) (hu : u < y1 * 4294967296 + y0) (h1 : u1 < 4294967296) (hg : 4294967296 ≤ q ∨ 4294967296 * r + u1 < q * y0) (hr : r + y1 < 4294967296) :
    Gs y1 y0 u u1 (q - 1) (r + y1) := by
  have hl := h.less hy hu h1 hg
  have hq : 1 ≤ q := Nat.lt_of_le_of_lt (Nat.zero_le _) hl
  refine ⟨?_, Nat.le_sub_one_of_lt hl, by have := h.hi; omega, hr⟩
  rw [h.split]
  obtain ⟨p, rfl⟩ : ∃ p, q = p + 1 := ⟨q - 1, by omega⟩
  rw [Nat.add_mul, Nat.one_mul]; simp; omega
theorem Gs.brk {y1 y0 u u1 q r : Nat} (h : Gs y1 y0 u u1 q r) (hy : 0 < y1) (h0 : y0 < 4294967296) (hu : u < y1 * 4294967296 + y0) (h1 : u1 < 4294967296) (hg : 4294967296 ≤ q ∨ 4294967296 * r + u1 < q * y0) (hr : 4294967296 ≤ r + y1) :
    (u * 4294967296 + u1) / (y1 * 4294967296 + y0) = q - 1 := by
  have hl := h.less hy hu h1 hg
  have hp : 0 < y1 * 4294967296 + y0 := by omega
  have hq1 : 1 ≤ q := Nat.lt_of_le_of_lt (Nat.zero_le _) hl
  refine Nat.le_antisymm (Nat.le_sub_one_of_lt hl) ?_
  have hq : q - 1 ≤ 4294967296 := by have := h.hi; omega
  rw [Nat.le_div_iff_mul_le hp, h.split]
  obtain ⟨p, rfl⟩ : ∃ p, q = p + 1 := ⟨q - 1, by omega⟩
  clear hl
  have hb : p * y0 ≤ 4294967296 * 4294967295 := Nat.mul_le_mul (by omega) (by omega)
  have e : (p + 1) * y1 = p * y1 + y1 := by rw [Nat.add_mul, Nat.one_mul]
  rw [e, show p + 1 - 1 = p by omega, Nat.mul_add, ← Nat.mul_assoc]
  generalize p * y1 = a at *
  generalize p * y0 = b at *
  omega
theorem Gs.start {y1 y0 u u1 : Nat} (hy : 2147483648 ≤ y1) (hy2 : y1 < 4294967296) (h0 : y0 < 4294967296) (hu : u < y1 * 4294967296 + y0) (h1 : u1 < 4294967296) : Gs y1 y0 u u1 (u / y1) (u % y1) := by
  have hp : 0 < y1 * 4294967296 + y0 := by omega
  have hm := Nat.mod_lt u (show 0 < y1 by omega)
  have hd := Nat.div_add_mod u y1
  refine ⟨by rw [Nat.mul_comm]; omega, ?_, ?_, by omega⟩
  · refine Nat.le_of_lt_succ ?_
    rw [Nat.div_lt_iff_lt_mul hp]
    have e : Nat.succ (u / y1) * (y1 * 4294967296 + y0) = (y1 * (u / y1) + y1) * 4294967296 + Nat.succ (u / y1) * y0 := by
      rw [Nat.mul_add, ← Nat.mul_assoc, Nat.succ_mul, Nat.mul_comm (u / y1) y1]
    rw [e]
    generalize y1 * (u / y1) = a at *
    generalize Nat.succ (u / y1) * y0 = b at *
    omega
  · refine Nat.le_of_lt_succ ?_
    rw [Nat.div_lt_iff_lt_mul (by omega)]
    omega
theorem Gs.prod {y1 y0 u u1 q r : Nat} (h : Gs y1 y0 u u1 q r) (h0 : y0 < 4294967296) : q * y0 < 18446744073709551616 := by
  have : q * y0 ≤ 4294967297 * 4294967295 := Nat.mul_le_mul h.hi (by omega)
  omega

/-! ### Both digits, and what is left -/
theorem two_any (B n1 n0 Y : Nat) (hY : 0 < Y) : (n1 / Y) * B + (n1 % Y * B + n0) / Y = (n1 * B + n0) / Y ∧ (n1 % Y * B + n0) % Y = (n1 * B + n0) % Y := by
  have hd := Nat.div_add_mod n1 Y
  have e : n1 * B + n0 = (n1 % Y * B + n0) + Y * (n1 / Y * B) := by
    have : n1 * B = (Y * (n1 / Y) + n1 % Y) * B := by rw [hd]
    rw [this, Nat.add_mul, Nat.mul_assoc]; omega
  rw [e, Nat.add_mul_div_left _ _ hY, Nat.add_mul_mod_self_left]
  exact ⟨by omega, rfl⟩
theorem two_digits (n1 n0 Y : Nat) (hY : 0 < Y) : (n1 / Y) * 4294967296 + (n1 % Y * 4294967296 + n0) / Y = (n1 * 4294967296 + n0) / Y ∧ (n1 % Y * 4294967296 + n0) % Y = (n1 * 4294967296 + n0) % Y := two_any _ n1 n0 Y hY
theorem shift_div (n y s : Nat) : (n * 2 ^ s) / (y * 2 ^ s) = n / y ∧ (n * 2 ^ s) % (y * 2 ^ s) / 2 ^ s = n % y := by
  have hp := Nat.two_pow_pos s
  refine ⟨Nat.mul_div_mul_right _ _ hp, ?_⟩
  rw [Nat.mul_mod_mul_right, Nat.mul_div_cancel _ hp]
theorem moved (hi lo s : Nat) (hs : s ≤ 63) (hl : lo < 18446744073709551616) : (hi * 18446744073709551616 + lo) * 2 ^ s = (hi * 2 ^ s + lo / 2 ^ (64 - s)) * 18446744073709551616 + lo * 2 ^ s % 18446744073709551616 := by
  have e : (18446744073709551616 : Nat) = 2 ^ (64 - s) * 2 ^ s := by rw [← Nat.pow_add, show 64 - s + s = 64 by omega]
  have h1 : lo * 2 ^ s % 18446744073709551616 = lo % 2 ^ (64 - s) * 2 ^ s := by rw [e, Nat.mul_mod_mul_right]
  have hd := Nat.div_add_mod lo (2 ^ (64 - s))
  rw [h1, Nat.add_mul, Nat.add_mul]
  have h2 : lo / 2 ^ (64 - s) * 18446744073709551616 = 2 ^ (64 - s) * (lo / 2 ^ (64 - s)) * 2 ^ s := by
    rw [e]; rw [Nat.mul_comm (lo / _), Nat.mul_right_comm]
  rw [h2, Nat.add_assoc, ← Nat.add_mul (2 ^ (64 - s) * (lo / 2 ^ (64 - s))), hd, Nat.mul_right_comm]
theorem lz_up {y s : Nat} (h0 : 0 < y) (h : y < 2 ^ (64 - s)) (h2 : 2 ^ (63 - s) ≤ y) (hs : s ≤ 63) : 9223372036854775808 ≤ y * 2 ^ s ∧ y * 2 ^ s < 18446744073709551616 := by
  have hp := Nat.two_pow_pos s
  have e1 : (18446744073709551616 : Nat) = 2 ^ (64 - s) * 2 ^ s := by rw [← Nat.pow_add, show 64 - s + s = 64 by omega]
  have e2 : (9223372036854775808 : Nat) = 2 ^ (63 - s) * 2 ^ s := by rw [← Nat.pow_add, show 63 - s + s = 63 by omega]
  exact ⟨by rw [e2]; exact Nat.mul_le_mul_right _ h2, by rw [e1]; exact Nat.mul_lt_mul_of_pos_right h hp⟩
theorem or_add {a b s : Nat} (hb : b < 2 ^ s) : (a * 2 ^ s) ||| b = a * 2 ^ s + b := by
  rw [Nat.mul_comm, Nat.two_pow_add_eq_or_of_lt hb]
theorem part_lt {lo s : Nat} (hl : lo < 18446744073709551616) (hs : s ≤ 63) : lo / 2 ^ (64 - s) < 2 ^ s := by
  rw [Nat.div_lt_iff_lt_mul (Nat.two_pow_pos _), ← Nat.pow_add, show s + (64 - s) = 64 by omega]; exact hl
theorem up_lt {hi lo y s : Nat} (h : hi < y) (hl : lo < 18446744073709551616) (hs : s ≤ 63) : hi * 2 ^ s + lo / 2 ^ (64 - s) < y * 2 ^ s := by
  have h1 := part_lt hl hs
  have h2 : (hi + 1) * 2 ^ s ≤ y * 2 ^ s := Nat.mul_le_mul_right _ h
  rw [Nat.add_mul, Nat.one_mul] at h2
  omega
end Go.Proofs.Ytpbginihkhfdmaa
namespace Go.Proofs.Ytpbginihkhfdmaa

def upB (mode : Int) (r d : Nat) (minus : Bool) : Bool :=
  if r = 0 then false else if mode = 0 then minus else if mode = 1 then !minus else if mode = 2 then (decide (d < 2 * r) || (decide (2 * r = d) && !minus)) else false
def wv (m : Bool) (a : Nat) : Int := if m then -(a : Int) else a
def qMag (z b mode : Int) : Nat := z.natAbs / b.natAbs + if upB mode (z.natAbs % b.natAbs) b.natAbs (decide (z < 0) != decide (b < 0)) then 1 else 0
def rq (z b mode : Int) : Int := wv (decide (z < 0) != decide (b < 0)) (qMag z b mode)
def fits64 (x : Int) : Bool := decide (-9223372036854775808 ≤ x) && decide (x < 9223372036854775808)
def divM (z b mode : Int) : Int × Int :=
  if b = 0 ∨ mode < 0 ∨ 3 < mode then (0, 1) else if fits64 (rq z b mode) then (rq z b mode, 0) else (0, 10)
def badB (b mode : Int) : Bool := decide (b = 0) || decide (mode < 0) || decide (3 < mode)
theorem divM_bad {z b mode : Int} (h : badB b mode = true) : divM z b mode = (0, 1) := by
  unfold badB at h; unfold divM
  simp only [Bool.or_eq_true, decide_eq_true_eq] at h
  rw [if_pos]; rcases h with (h | h) | h
  · exact .inl h
  · exact .inr (.inl h)
  · exact .inr (.inr h)
theorem divM_good {z b mode : Int} (h : badB b mode = false) : divM z b mode = if fits64 (rq z b mode) then (rq z b mode, 0) else (0, 10) := by
  unfold badB at h; unfold divM
  simp only [Bool.or_eq_false_iff, decide_eq_false_iff_not] at h
  rw [if_neg]; rintro (h1 | h1 | h1)
  · exact h.1.1 h1
  · exact h.1.2 h1
  · exact h.2 h1
theorem fits64_iff (x : Int) : fits64 x = true ↔ -9223372036854775808 ≤ x ∧ x ≤ 9223372036854775807 := by
  unfold fits64; simp; omega
theorem divM_fit {z b mode : Int} (h : badB b mode = false) (h2 : fits64 (rq z b mode) = true) : divM z b mode = (rq z b mode, 0) := by rw [divM_good h, if_pos h2]
theorem fits64_wv (m : Bool) (a : Nat) : fits64 (wv m a) = if m then decide (a ≤ 9223372036854775808) else decide (a < 9223372036854775808) := by
  unfold fits64 wv
  cases m
  · by_cases h : a < 9223372036854775808
    · simp [h]; omega
    · simp [h]; omega
  · by_cases h : a ≤ 9223372036854775808
    · simp [h]; omega
    · simp [h]; omega
theorem qMag_big {z b mode : Int} (h : b.natAbs * 18446744073709551616 ≤ z.natAbs) (hb : b ≠ 0) : fits64 (rq z b mode) = false := by
  have hb0 : 0 < b.natAbs := by omega
  have h1 : 18446744073709551616 ≤ z.natAbs / b.natAbs := (Nat.le_div_iff_mul_le hb0).2 (by rw [Nat.mul_comm]; exact h)
  unfold rq
  rw [fits64_wv]
  have h2 : 18446744073709551616 ≤ qMag z b mode := by unfold qMag; exact Nat.le_trans h1 (Nat.le_add_right _ _)
  generalize qMag z b mode = q at *
  split <;> exact decide_eq_false (by omega)
theorem big_of_fits {m : Bool} {a : Nat} (h : 18446744073709551616 ≤ a) : fits64 (wv m a) = false := by
  rw [fits64_wv]; split <;> exact decide_eq_false (by omega)
end Go.Proofs.Ytpbginihkhfdmaa
namespace Go.Proofs.Ytpbginihkhfdmaa
set_option linter.unusedVariables false
abbrev Pt := Int × Int
def ptAt (l : List Pt) (i : Nat) : Pt := l.getD i (0, 0)
def okX (x : Int) : Bool := decide (-1099511627776 ≤ x) && decide (x ≤ 1099511627776)
def may35 (l : List Pt) (p : Pt) : Bool := okX p.2 && (decide (l.length = 0) || decide ((ptAt l (l.length - 1)).1 < p.1))
def add35 (l : List Pt) (p : Pt) : List Pt := if may35 l p = true then (if l.length < 16 then l else l.drop 1) ++ [p] else l
theorem ptAt_get {l : List Pt} {i : Nat} (h : i < l.length) : l[i]? = some (ptAt l i) := by
  unfold ptAt; simp [List.getD, h]
theorem ptAt_app {l : List Pt} {p : Pt} {i : Nat} (h : i < l.length) : ptAt (l ++ [p]) i = ptAt l i := by
  unfold ptAt; rw [List.getD_eq_getElem?_getD, List.getD_eq_getElem?_getD, List.getElem?_append_left h]
theorem ptAt_last {l : List Pt} {p : Pt} : ptAt (l ++ [p]) l.length = p := by
  unfold ptAt; rw [List.getD_eq_getElem?_getD, List.getElem?_append_right (Nat.le_refl _)]; simp
theorem ptAt_drop {l : List Pt} {i : Nat} : ptAt (l.drop 1) i = ptAt l (i + 1) := by
  unfold ptAt; rw [List.getD_eq_getElem?_getD, List.getD_eq_getElem?_getD, List.getElem?_drop, Nat.add_comm]
theorem ptAt_set {l : List Pt} {p : Pt} {i j : Nat} (h : j < l.length) : ptAt (l.set j p) i = if i = j then p else ptAt l i := by
  unfold ptAt
  rw [List.getD_eq_getElem?_getD, List.getD_eq_getElem?_getD, List.getElem?_set]
  by_cases e : i = j
  · subst e; simp [h]
  · rw [if_neg (Ne.symm e), if_neg e]
structure OkP (p : Pt) : Prop where
  t0 : 0 ≤ p.1
  t1 : p.1 < 4294967296
  x0 : -1099511627776 ≤ p.2
  x1 : p.2 ≤ 1099511627776
structure Rise (l : List Pt) : Prop where
  len : l.length ≤ 16
  ok : ∀ i, i < l.length → OkP (ptAt l i)
  up : ∀ i j, i < j → j < l.length → (ptAt l i).1 < (ptAt l j).1
theorem Rise.nil : Rise [] := ⟨by simp, fun i h => by simp at h, fun i j _ h => by simp at h⟩
structure Ring (cs : List Pt) (fr n : Nat) (l : List Pt) : Prop where
  len : cs.length = 16
  n16 : n ≤ 16
  fr16 : fr < 16
  ln : l.length = n
  get : ∀ i, i < n → ptAt cs ((fr + i) % 16) = ptAt l i
theorem Ring.nil : Ring (List.replicate 16 (0, 0)) 0 0 [] := ⟨by simp, by omega, by omega, rfl, fun i h => by omega⟩
theorem Ring.push1 {cs l : List Pt} {fr n : Nat} (h : Ring cs fr n l) (p : Pt) (hn : n < 16) : Ring (cs.set ((fr + n) % 16) p) fr (n + 1) (l ++ [p]) := by
  have h1 := h.len
  have h2 := h.ln
  refine ⟨by rw [List.length_set]; exact h1, by omega, h.fr16, by simp [h2], fun i hi => ?_⟩
  rw [ptAt_set (by omega)]
  by_cases e : i = n
  · subst e
    rw [if_pos rfl, ← h2, ptAt_last]
  · rw [if_neg (by have := h.fr16; omega), ptAt_app (by omega), h.get i (by omega)]
theorem Ring.push2 {cs l : List Pt} {fr : Nat} (h : Ring cs fr 16 l) (p : Pt) : Ring (cs.set (((fr + 1) % 16 + 15) % 16) p) ((fr + 1) % 16) 16 (l.drop 1 ++ [p]) := by
  have h1 := h.len
  have h2 := h.ln
  have h3 := h.fr16
  have h4 : (l.drop 1).length = 15 := by rw [List.length_drop]; omega
  refine ⟨by rw [List.length_set]; exact h1, by omega, by omega, by rw [List.length_append, h4]; rfl, fun i hi => ?_⟩
  rw [ptAt_set (by omega)]
  by_cases e : i = 15
  · subst e
    rw [if_pos rfl, ← h4, ptAt_last]
  · rw [if_neg (by omega), ptAt_app (by omega), ptAt_drop, ← h.get (i + 1) (by omega)]
    congr 1
    omega
theorem may_iff {l : List Pt} {p : Pt} : may35 l p = true ↔ (-1099511627776 ≤ p.2 ∧ p.2 ≤ 1099511627776) ∧ (l.length = 0 ∨ (ptAt l (l.length - 1)).1 < p.1) := by
  unfold may35 okX; simp [and_assoc]
theorem Rise.snoc {l : List Pt} {p : Pt} (h : Rise l) (hp : OkP p) (hl : l.length < 16) (hu : l.length = 0 ∨ (ptAt l (l.length - 1)).1 < p.1) : Rise (l ++ [p]) := by
  have e : (l ++ [p]).length = l.length + 1 := by simp
  refine ⟨by omega, fun i hi => ?_, fun i j hij hj => ?_⟩
  · by_cases hq : i < l.length
    · rw [ptAt_app hq]; exact h.ok i hq
    · obtain rfl : i = l.length := by omega
      rw [ptAt_last]; exact hp
  · have hi : i < l.length := by omega
    rw [ptAt_app hi]
    by_cases hq : j < l.length
    · rw [ptAt_app hq]; exact h.up i j hij hq
    · obtain rfl : j = l.length := by omega
      rw [ptAt_last]
      rcases hu with hu | hu
      · omega
      · by_cases hz : i = l.length - 1
        · rw [hz]; exact hu
        · exact Int.lt_trans (h.up i (l.length - 1) (by omega) (by omega)) hu
theorem Rise.drop {l : List Pt} (h : Rise l) : Rise (l.drop 1) := by
  have e : (l.drop 1).length = l.length - 1 := List.length_drop
  have := h.len
  refine ⟨by omega, fun i hi => ?_, fun i j hij hj => ?_⟩
  · rw [ptAt_drop]; exact h.ok _ (by omega)
  · rw [ptAt_drop, ptAt_drop]; exact h.up _ _ (by omega) (by omega)
theorem Rise.add {l : List Pt} {p : Pt} (h : Rise l) (t0 : 0 ≤ p.1) (t1 : p.1 < 4294967296) : Rise (add35 l p) := by
  unfold add35
  by_cases hm : may35 l p = true
  · rw [if_pos hm]
    obtain ⟨⟨x0, x1⟩, hu⟩ := may_iff.1 hm
    have hp : OkP p := ⟨t0, t1, x0, x1⟩
    split
    · rename_i hl
      exact h.snoc hp hl hu
    · rename_i hl
      have h16 := h.len
      have e : (l.drop 1).length = l.length - 1 := List.length_drop
      refine h.drop.snoc hp (by omega) (.inr ?_)
      rw [ptAt_drop, e]
      have : l.length - 1 - 1 + 1 = l.length - 1 := by omega
      rw [this]
      rcases hu with hu | hu
      · omega
      · exact hu
  · rw [if_neg hm]; exact h
/-! What is told. -/
def mid35 (a p : Pt) (t : Int) : Int := a.2 + (divM ((p.2 - a.2) * (t - a.1)) (p.1 - a.1) 2).1
def scan35 (t : Int) : Pt → List Pt → Int × Int
  | _, [] => (0, 7)
  | a, p :: r => if t < p.1 then (mid35 a p t, 0) else scan35 t p r
def at35 (l : List Pt) (hold t : Int) : Int × Int :=
  if l.length = 0 ∨ t < (ptAt l 0).1 then (0, 7) else
  if (ptAt l (l.length - 1)).1 ≤ t then (if hold < t - (ptAt l (l.length - 1)).1 then (0, 14) else ((ptAt l (l.length - 1)).2, 0)) else scan35 t (0, 0) l
def rate35 (l : List Pt) : Int × Int :=
  if l.length < 2 then (0, 7) else ((divM (((ptAt l (l.length - 1)).2 - (ptAt l 0).2) * 1000) ((ptAt l (l.length - 1)).1 - (ptAt l 0).1) 2).1, 0)
def kof (l : List Pt) (t : Int) : Nat → Nat
  | 0 => 0
  | i + 1 => if (ptAt l i).1 ≤ t then i else kof l t i
theorem kof_spec {l : List Pt} {t : Int} (h0 : (ptAt l 0).1 ≤ t) : ∀ i, 0 < i → i ≤ l.length → (∀ j, i ≤ j → j < l.length → t < (ptAt l j).1) → kof l t i < i ∧ (ptAt l (kof l t i)).1 ≤ t ∧ ∀ j, kof l t i < j → j < l.length → t < (ptAt l j).1
  | 0, h, _, _ => by omega
  | i + 1, _, hi, hj => by
    unfold kof
    by_cases hc : (ptAt l i).1 ≤ t
    · rw [if_pos hc]
      exact ⟨by omega, hc, fun j h1 h2 => hj j (by omega) h2⟩
    · rw [if_neg hc]
      by_cases hz : i = 0
      · subst hz; exact absurd h0 hc
      · have := kof_spec h0 i (by omega) (by omega) (fun j h1 h2 => by
          by_cases e : j = i
          · subst e; omega
          · exact hj j (by omega) h2)
        exact ⟨by omega, this.2.1, this.2.2⟩
theorem drop_cons {l : List Pt} {j : Nat} (h : j < l.length) : l.drop j = ptAt l j :: l.drop (j + 1) := by
  rw [List.drop_eq_getElem_cons h]
  congr 1
  have := ptAt_get h
  rw [List.getElem?_eq_getElem h] at this
  exact Option.some.inj this
theorem scan_spec {l : List Pt} {t : Int} {k : Nat} (hk : k + 1 < l.length) (hl : ∀ i, i ≤ k → (ptAt l i).1 ≤ t) (hu : t < (ptAt l (k + 1)).1) :
    ∀ d j a, j + d = k + 1 → (0 < j → a = ptAt l (j - 1)) → scan35 t a (l.drop j) = (mid35 (if j = 0 ∧ d = 0 then a else ptAt l k) (ptAt l (k + 1)) t, 0)
  | 0, j, a, hj, ha => by
    obtain rfl : j = k + 1 := by omega
    rw [drop_cons hk]
    unfold scan35
    rw [if_pos hu, ha (by omega), if_neg (by omega)]
    rfl
  | d + 1, j, a, hj, ha => by
    rw [drop_cons (by omega)]
    unfold scan35
    rw [if_neg (by have := hl j (by omega); omega), scan_spec hk hl hu d (j + 1) (ptAt l j) (by omega) (fun _ => rfl), if_neg (by omega), if_neg (by omega)]
end Go.Proofs.Ytpbginihkhfdmaa
